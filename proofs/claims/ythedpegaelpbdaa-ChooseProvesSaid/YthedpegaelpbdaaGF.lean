/- The field of a network: choose.fieldOf. -/
import Derived.Test.YthedpegaelpbdaaGW
import Derived.Test.YthedpegaelpbdaaV1
import Derived.Test.YthedpegaelpbdaaN6
import Derived.Test.YthedpegaelpbdaaV2
import Derived.Maps.AppendAt
import Derived.Test.YthedpegaelpbdaaRL
import Derived.Deep.AppendLies
namespace Go.Proofs.Ythedpegaelpbdaa
open Go.ChangeShapes Go.WideShapes Go.ChangeAt Go.RowKit
set_option linter.unusedVariables false
attribute [local go_sem ↓] execOp_call_val
attribute [local go_sem] callVal_func setCell_drewN alloc_drewN sEq_walk NetH.cells

/-! ### what it computes -/
def swEd (nodes opens : List ByteArray) (s : Sw) : List Ed := if s.opn || opens.any (fun x => sEq s.name x) then [] else [⟨ndIdx nodes s.a, ndIdx nodes s.b, s.name, s.breaker, 0⟩]
def mid (p : Fp) : Bool := p.part != 0 && p.part != 1000
def brEd (nodes : List ByteArray) (p : Fp) (b : Br) : List Ed :=
  if sEq b.name p.branch && mid p then [⟨nodes.length, ndIdx nodes b.fr, b.name, false, 0⟩, ⟨nodes.length, ndIdx nodes b.to, b.name, false, 0⟩] else [⟨ndIdx nodes b.fr, ndIdx nodes b.to, b.name, false, 0⟩]
def plc1 (nodes : List ByteArray) (p : Fp) (acc : Nat) (b : Br) : Nat := if sEq b.name p.branch && !mid p then (if 0 < p.part then ndIdx nodes b.to else ndIdx nodes b.fr) else acc
def fdEs (x : Net) (opens : List ByteArray) (p : Fp) : List Ed := x.sws.flatMap (swEd x.nodes opens) ++ x.brs.flatMap (brEd x.nodes p)
def fdPl (x : Net) (p : Fp) : Nat := x.brs.foldl (plc1 x.nodes p) x.nodes.length
def fdSrc (x : Net) : List Bool := x.sts.foldl (fun l g => l.set (ndIdx x.nodes g.node) true) (x.gns.foldl (fun l g => l.set (ndIdx x.nodes g.node) true) (List.replicate (x.nodes.length + 1) false))
theorem take_flatMap {α β : Type} (f : α → List β) {l : List α} {k : Nat} {x : α} (h : l[k]? = some x) : (l.take (k + 1)).flatMap f = (l.take k).flatMap f ++ f x := by
  rw [List.take_add_one, h, List.flatMap_append]; simp
theorem take_foldl {α β : Type} (f : β → α → β) (b : β) {l : List α} {k : Nat} {x : α} (h : l[k]? = some x) : (l.take (k + 1)).foldl f b = f ((l.take k).foldl f b) x := by
  rw [List.take_add_one, h, List.foldl_append]; rfl
theorem plc_mid {nodes : List ByteArray} {p : Fp} (h : mid p = true) : ∀ (l : List Br) (a : Nat), l.foldl (plc1 nodes p) a = a
  | [], a => rfl
  | b :: l, a => by
    rw [List.foldl_cons, show plc1 nodes p a b = a from by unfold plc1; rw [h]; simp]
    exact plc_mid h l a
theorem len_flatMap_le {α β : Type} (f : α → List β) (m : Nat) (h : ∀ a, (f a).length ≤ m) : ∀ l : List α, (l.flatMap f).length ≤ m * l.length
  | [] => by simp
  | a :: l => by
    have h1 := len_flatMap_le f m h l
    have h2 := h a
    rw [List.flatMap_cons, List.length_append, List.length_cons, Nat.mul_succ]; omega
theorem swEd_len (nodes opens : List ByteArray) (s : Sw) : (swEd nodes opens s).length ≤ 1 := by unfold swEd; split <;> simp
theorem brEd_len (nodes : List ByteArray) (p : Fp) (b : Br) : (brEd nodes p b).length ≤ 2 := by unfold brEd; split <;> simp
theorem foldl_set_len {α : Type} (f : α → Nat) : ∀ (l : List α) (s : List Bool), (l.foldl (fun l g => l.set (f g) true) s).length = s.length
  | [], s => rfl
  | a :: l, s => by rw [List.foldl_cons, foldl_set_len f l]; simp

/-! ### the node's number -/
theorem at_any (h : NetH) (nodes : List ByteArray) (s : ByteArray) (g : Nat) (w : World) (hq : Blk w g 29 h.cells) (hr : RdStr w w.heap.size h.A0 h.n0 nodes) (hn : h.n0 ≤ 9223372036854775807) (hs : s ∈ nodes) :
    Calls Try.prog 82 #[.string s, .pointer (some ⟨g, 0, none⟩)] w fun e w' => e = .returned (.int .i64 (ndIdx nodes s : Nat)) ∧ w = w' := by
  obtain ⟨y0, y1, y2, y3, y4, y5, nf, nlt⟩ := net_box hq
  have HS := Lib.hid (ndIdx_ok hs).1
  have HR := Lib.hid hr
  clear hr
  go_enter Try.func82, Try.ntmps82
  go_wp2_with fail
  refine (index_str _ _ _ _ _ _ HR.out hn).mono ?_
  rintro e w1 ⟨rfl, rfl⟩
  go_wp2_with fail
  go_ret
  exact ⟨ret_int HS.out, rfl⟩

structure FoS (w0 : World) (bf : Nat) (h : NetH) (p : Fp) (w : World) (n : Nat) (place : Nat) (v : Value) (es : List Ed) : Prop where
  low : Below w0.heap.size w0 w
  q1 : Blk w w0.heap.size 29 h.cells
  q3 : Blk w (w0.heap.size + 1) 31 #[.string p.branch, .int .i64 p.part]
  qf : Blk w bf 107 #[v, .int .i64 place, .slice none 0 0, .int .i64 ((n : Int) + 1)]
  own : w.ownsRow (bf + 1) 104 5 v es.length (es.flatMap Ed.cells)
  sz : bf < w.heap.size
  bfe : w0.heap.size + 1 < bf
section
variable {w0 : World} {bf : Nat} {h : NetH} {p : Fp} {w : World} {n place : Nat} {v : Value} {es : List Ed}
theorem FoS.up {w' : World} (s : FoS w0 bf h p w n place v es) (hb : Below w.heap.size w w') : FoS w0 bf h p w' n place v es :=
  ⟨s.low.trans (hb.mono s.low.size), s.q1.below hb s.q1.lt, s.q3.below hb s.q3.lt, s.qf.below hb s.qf.lt, own_below s.own hb, Nat.lt_of_lt_of_le s.sz hb.size, s.bfe⟩
theorem FoS.app {w5 : World} {v5 : Value} {es' : List Ed} (s : FoS w0 bf h p w n place v es) (hb : Below (bf + 1) w w5) (ho : w5.ownsRow (bf + 1) 104 5 v5 es'.length (es'.flatMap Ed.cells)) :
    FoS w0 bf h p (w5.setCell ⟨bf, 0, none⟩ v5) n place v5 es' := by
  have he := s.bfe
  have hb2 : Below bf w (w5.setCell ⟨bf, 0, none⟩ v5) := (hb.mono (by omega)).setCell (by simp) _
  refine ⟨s.low.trans (hb2.mono (by omega)), s.q1.below hb2 (by omega), s.q3.below hb2 (by omega), ?_, ownsRow_setCell_below ho (a := ⟨bf, 0, none⟩) (by simp) _, Nat.lt_of_lt_of_le s.sz hb2.size, s.bfe⟩
  have h1 := (s.qf.below hb (by omega)).set_ 0 v5
  exact h1
theorem FoS.plc (s : FoS w0 bf h p w n place v es) (pl : Nat) : FoS w0 bf h p (w.setCell ⟨bf, 1, none⟩ (.int .i64 pl)) n pl v es := by
  have he := s.bfe
  have hb2 : Below bf w (w.setCell ⟨bf, 1, none⟩ (.int .i64 pl)) := (Below.refl _ _).setCell (by simp) _
  refine ⟨s.low.trans (hb2.mono (by omega)), s.q1.below hb2 (by omega), s.q3.below hb2 (by omega), ?_, ownsRow_setCell_below s.own (a := ⟨bf, 1, none⟩) (by simp) _, Nat.lt_of_lt_of_le s.sz hb2.size, s.bfe⟩
  have h1 := s.qf.set_ 1 (.int .i64 pl)
  exact h1
end
theorem made_bools (n : Nat) : madeCells #[.bool false] n = ((List.replicate n false).map Value.bool).toArray := by
  apply Array.ext'
  simp [madeCells, Nat.mod_one, List.map_const']
/-- the field once its sources are made -/
structure FoT (w0 : World) (bf g : Nat) (h : NetH) (w : World) (n : Nat) (place : Nat) (v : Value) (es : List Ed) (src : List Bool) : Prop where
  low : Below w0.heap.size w0 w
  q1 : Blk w w0.heap.size 29 h.cells
  qf : Blk w bf 107 #[v, .int .i64 place, .slice (some ⟨g, 0, none⟩) (n + 1) (n + 1), .int .i64 ((n : Int) + 1)]
  qg : Blk w g 4 (src.map Value.bool).toArray
  own : w.ownsRow (bf + 1) 104 5 v es.length (es.flatMap Ed.cells)
  sl : src.length = n + 1
  sz : bf < w.heap.size
  bfe : w0.heap.size + 1 < bf
  gs : bf < g
  og : v.ownBlock ≠ some g
section
variable {w0 : World} {bf g : Nat} {h : NetH} {w : World} {n place : Nat} {v : Value} {es : List Ed} {src : List Bool}
theorem FoT.up {w' : World} (s : FoT w0 bf g h w n place v es src) (hb : Below w.heap.size w w') : FoT w0 bf g h w' n place v es src :=
  ⟨s.low.trans (hb.mono s.low.size), s.q1.below hb s.q1.lt, s.qf.below hb s.qf.lt, s.qg.below hb s.qg.lt, own_below s.own hb, s.sl, Nat.lt_of_lt_of_le s.sz hb.size, s.bfe, s.gs, s.og⟩
theorem FoT.put (s : FoT w0 bf g h w n place v es src) (k : Nat) : FoT w0 bf g h (w.drew.setCell ⟨g, k, none⟩ (.bool true)) n place v es (src.set k true) := by
  have h1 := s.bfe
  have h2 := s.gs
  have hg : (Below w0.heap.size w0 (w.drew.setCell ⟨g, k, none⟩ (.bool true))) := (below_drew s.low).setCell (by simp; omega) _
  refine ⟨hg, s.q1.drew.far (by simp; omega) _, s.qf.drew.far (by simp; omega) _, ?_, ?_, by simpa using s.sl, by simpa using s.sz, s.bfe, s.gs, s.og⟩
  · have h3 := s.qg.drew.set_ k (.bool true)
    have e : (src.map Value.bool).toArray.setIfInBounds k (.bool true) = ((src.set k true).map Value.bool).toArray := by simp [List.map_set]
    rwa [e] at h3
  · refine World.ownsRow.kept (row := some g) s.own ?_ (.inr s.og)
    exact only_setCell (g := g) (only_drewN (World.grownBy.refl w (some g)) 1) (.inl rfl) _
theorem FoT.gcell (s : FoT w0 bf g h w n place v es src) {k : Nat} (hk : k < n + 1) : w.drew.cell? ⟨g, k, none⟩ = some (.bool (src.getD k false)) := by
  have := s.sl
  rw [s.qg.drew.cell k, List.getElem?_toArray, List.getElem?_map, List.getD_eq_getElem?_getD, List.getElem?_eq_getElem (by omega)]; rfl
theorem FoS.made {p : Fp} (s : FoS w0 bf h p w n place v es) : FoT w0 bf w.heap.size h ((w.setCell ⟨bf, 2, none⟩ (.slice (some ⟨w.heap.size, 0, none⟩) (n + 1) (n + 1))).alloc (.cells (madeCells #[.bool false] (n + 1)) 4)) n place v es (List.replicate (n + 1) false) := by
  have h1 := s.bfe
  have h2 := s.sz
  have hA : Below bf w (w.setCell ⟨bf, 2, none⟩ (.slice (some ⟨w.heap.size, 0, none⟩) (n + 1) (n + 1))) := (Below.refl _ _).setCell (by simp) _
  have hb2 : Below bf w ((w.setCell ⟨bf, 2, none⟩ (.slice (some ⟨w.heap.size, 0, none⟩) (n + 1) (n + 1))).alloc (.cells (madeCells #[.bool false] (n + 1)) 4)) := hA.alloc (by simp; omega) _
  refine ⟨s.low.trans (hb2.mono (by omega)), s.q1.below hb2 (by omega), ?_, ?_, (ownsRow_setCell_below s.own (a := ⟨bf, 2, none⟩) (by simp) _).alloc _, by simp, Nat.lt_of_lt_of_le s.sz hb2.size, s.bfe, s.sz, fun e => ?_⟩
  · have h3 := s.qf.set_ 2 (.slice (some ⟨w.heap.size, 0, none⟩) (n + 1) (n + 1))
    exact Blk.alloc h3 _
  · rw [made_bools]
    exact Blk.new_ (by simp)
  · have := (s.own.lt _ e).2; omega
end
theorem ed_news (W : World) (e : Ed) (t : TypeId) : ∀ (j : Nat) (u : Value), e.cells[j]? = some u → (W.alloc (.cells (edV e) t)).cell? ((⟨W.heap.size, 0, none⟩ : Addr).add j) = some u := by
  intro j u hu
  rw [Addr.add_lit, Nat.zero_add, (Blk.new W _ _).cell j]
  unfold edV
  simpa [Ed.cells] using hu
theorem ed_one (e : Ed) : ∀ u ∈ e.cells, u.oneCell' = true := by
  intro u hu; simp [Ed.cells] at hu; rcases hu with rfl | rfl | rfl | rfl | rfl <;> rfl
theorem ed_news2 (W : World) (e f : Ed) (t : TypeId) : ∀ (j : Nat) (u : Value), (e.cells ++ f.cells)[j]? = some u → (W.alloc (.cells #[.int .i64 e.a, .int .i64 e.b, .string e.name, .bool e.brk, .int .i64 e.fl, .int .i64 f.a, .int .i64 f.b, .string f.name, .bool f.brk, .int .i64 f.fl] t)).cell? ((⟨W.heap.size, 0, none⟩ : Addr).add j) = some u := by
  intro j u hu
  rw [Addr.add_lit, Nat.zero_add, (Blk.new W _ _).cell j]
  simpa [Ed.cells] using hu
theorem ed_one2 (e f : Ed) : ∀ u ∈ e.cells ++ f.cells, u.oneCell' = true := by
  intro u hu
  rcases List.mem_append.1 hu with h | h
  · exact ed_one e u h
  · exact ed_one f u h
theorem info_ed : (Try.prog.info? 104).map (fun i => (i.zero, i.size, i.bytes)) = some (some (.agg #[.int .i64 0, .int .i64 0, .string ⟨#[]⟩, .bool false, .int .i64 0]), 5, 48) := by kernel_rfl
theorem rdEd_own {w : World} {base : Nat} {v : Value} {es : List Ed} (h : w.ownsRow base 104 5 v es.length (es.flatMap Ed.cells)) : ∃ A c, v = .slice A es.length c ∧ RdEd w w.heap.size A es.length es := by
  rcases h.2 with ⟨h1, h2⟩ | ⟨g, cap, cur, h1, h2, h3, h4⟩
  · refine ⟨none, 0, by rw [h1, h2], rfl, flat_len Ed.len es, fun h0 => by omega⟩
  · refine ⟨some ⟨g, 0, none⟩, cap, h1, rfl, flat_len Ed.len es, fun h0 => ⟨g, 0, rfl, (h.lt g (by rw [h1]; rfl)).2, fun j u hu => ?_⟩⟩
    have := h.cells (g := g) (by rw [h1]; rfl) j u hu
    rw [Addr.add_lit] at this
    exact this

theorem frz_alloc {W : World} {o : Obj} {b off : Nat} (h : W.frozen? ⟨b, off, none⟩ = false) (hb : b < W.heap.size) : (W.alloc o).drew.frozen? ⟨b, off, none⟩ = false := by
  have := ((Below.refl W.heap.size W).alloc (Nat.le_refl _) o).frozen (p := ⟨b, off, none⟩) hb
  exact this.trans h
theorem cell_al {W : World} {o : Obj} {b off : Nat} {v : Value} (h : W.cell? ⟨b, off, none⟩ = some v) (hb : b < W.heap.size) : (W.alloc o).drew.cell? ⟨b, off, none⟩ = some v := by
  have := ((Below.refl W.heap.size W).alloc (Nat.le_refl _) o).cell (p := ⟨b, off, none⟩) hb
  exact this.trans h
def FoP (x : Net) (opens : List ByteArray) (p : Fp) (w : World) (e : Ending) (w' : World) : Prop :=
  Below w.heap.size w w' ∧ ∃ q g v, e = .returned (.pointer (some ⟨q, 0, none⟩)) ∧ w.heap.size ≤ q ∧ FdW w' q g (fdEs x opens p) (fdPl x p) v (fdSrc x)
set_option maxRecDepth 100000 in
set_option maxHeartbeats 8000000 in
theorem fieldOf_any (h : NetH) (x : Net) (ok : NetOk x) (O : Option Addr) (on oc : Nat) (opens : List ByteArray) (p : Fp) (w : World) (hR : RdNet w w.heap.size h x) (hO : RdStr w w.heap.size O on opens) (hon : on ≤ 9223372036854775807) :
    Calls Try.prog 39 #[.agg h.cells, .slice O on oc, .agg #[.string p.branch, .int .i64 p.part]] w (FoP x opens p w) := by
  obtain ⟨A0, n0, c0, A1, n1, c1, A2, n2, c2, A3, n3, c3, A4, n4, c4, A5, n5, c5⟩ := h
  have HP : Hid (∀ e w', FoP x opens p w e w' = (Below w.heap.size w w' ∧ ∃ q g v, e = .returned (.pointer (some ⟨q, 0, none⟩)) ∧ w.heap.size ≤ q ∧ FdW w' q g (fdEs x opens p) (fdPl x p) v (fdSrc x))) := Lib.hid fun _ _ => rfl
  have HR := Lib.hid hR
  have HO := Lib.hid hO
  have HOK := Lib.hid ok
  obtain ⟨i0, hi0, hi1, hi2, hi3⟩ := info_parts info_ed
  have HI0 := Lib.hid hi0
  have HI1 := Lib.hid hi1
  have HI2 := Lib.hid hi2
  have HI3 := Lib.hid hi3
  have HN0 : Hid (x.nodes.length = n0) := Lib.hid hR.r0.1
  have HN1 : Hid (x.sws.length = n1) := Lib.hid hR.r1.1
  have HN2 : Hid (x.brs.length = n2) := Lib.hid hR.r2.1
  have HN3 : Hid (x.gns.length = n3) := Lib.hid hR.r3.1
  have HN5 : Hid (x.sts.length = n5) := Lib.hid hR.r5.1
  have hn0 : n0 ≤ 24 := by have := HN0.out; have := ok.l0; omega
  have hn1 : n1 ≤ 32 := by have := HN1.out; have := ok.l1; omega
  have hn2 : n2 ≤ 24 := by have := HN2.out; have := ok.l2; omega
  have hn3 : n3 ≤ 10 := by have := HN3.out; have := ok.l3; omega
  have hn5 : n5 ≤ 4 := by have := HN5.out; have := ok.l5; omega
  have HS0 : Hid (FoS w (w.heap.size + 1 + 1) ⟨A0, n0, c0, A1, n1, c1, A2, n2, c2, A3, n3, c3, A4, n4, c4, A5, n5, c5⟩ p (((w.alloc (.cells #[.slice A0 n0 c0, .slice A1 n1 c1, .slice A2 n2 c2, .slice A3 n3 c3, .slice A4 n4 c4, .slice A5 n5 c5] 29)).alloc (.cells #[.string p.branch, .int .i64 p.part] 31)).alloc (.cells #[.slice none 0 0, .int .i64 n0, .slice none 0 0, .int .i64 ((n0 : Int) + 1)] 107)) n0 n0 (.slice none 0 0) []) := Lib.hid
    ⟨(((Below.refl _ _).alloc (Nat.le_refl _) _).alloc (by simp) _).alloc (by simp; omega) _, ((Blk.new w _ _).alloc _).alloc _, (Blk.new_ (by simp)).alloc _, Blk.new_ (by simp), World.ownsRow_nil _ _ _ _, by simp, by omega⟩
  clear hR hO hi0 hi1 hi2 hi3 ok
  dsimp only [NetH.cells]
  go_enter Try.func39, Try.ntmps39
  go_wp2_with fail
  generalize hbf : w.heap.size + 1 + 1 = bf at *
  have HBF := Lib.hid hbf
  clear hbf
  go_loopw [30] (fun i wr => ∃ (k : Nat) (v : Value), k ≤ n1 ∧ i = .int .i64 k ∧ FoS w bf ⟨A0, n0, c0, A1, n1, c1, A2, n2, c2, A3, n3, c3, A4, n4, c4, A5, n5, c5⟩ p wr n0 n0 v ((x.sws.take k).flatMap (swEd x.nodes opens))) (fun i _ => n1 - (intOf i).toNat)
  case atStart => exact ⟨0, _, by omega, rfl, HS0.out⟩
  case round =>
    clear HS0
    obtain ⟨k, v, hk, rfl, hs⟩ := hrel
    have HS := Lib.hid hs
    obtain ⟨y0, y1, y2, y3, y4, y5, nf, nlt⟩ := net_box hs.q1
    have hsz := hs.sz
    have hbe := hs.bfe
    clear hs
    have HWR := Lib.hid (Below.refl wr.heap.size wr)
    by_cases hlt : k < n1
    · obtain ⟨z, hz⟩ : ∃ z, x.sws[k]? = some z := ⟨_, List.getElem?_eq_getElem (by have := HN1.out; omega)⟩
      have hrw := HR.out.up HS.out.low
      obtain ⟨bz, oz, hA, hbz⟩ := hrw.r1.form (by dsimp only; omega)
      dsimp only at hA
      subst hA
      obtain ⟨e0, e1, e2, e3, e4⟩ := hrw.r1.at_ hz
      have HRN := Lib.hid hrw.r0
      have HZS := Lib.hid (HOK.out.sw z (List.mem_of_getElem? hz))
      have HZ := Lib.hid (take_flatMap (swEd x.nodes opens) hz)
      have HZL : Hid (((x.sws.take k).flatMap (swEd x.nodes opens)).length ≤ 1000) := Lib.hid (by
        have := len_flatMap_le (swEd x.nodes opens) 1 (swEd_len x.nodes opens) (x.sws.take k)
        rw [List.length_take] at this; omega)
      clear hz hrw
      have HWB := Lib.hid (HWR.out.alloc (Nat.le_refl _) (.cells #[.string z.name, .string z.a, .string z.b, .bool z.breaker, .bool z.opn] 44))
      have HS2 := Lib.hid (HS.out.up HWB.out)
      cases ho : z.opn with
      | true =>
        rw [ho] at e4 HWB HS2
        have HE : Hid (swEd x.nodes opens z = []) := Lib.hid (by unfold swEd; rw [ho]; rfl)
        clear ho
        go_wp2_with fail
        go_roundw
        case rel => exact ⟨k + 1, v, by omega, by go_num, by rw [HZ.out, HE.out, List.append_nil]; exact HS2.out⟩
        case measure => simp [intOf]; omega
      | false =>
        rw [ho] at e4 HWB HS2
        have HOW : Hid (RdStr (wr.alloc (.cells #[.string z.name, .string z.a, .string z.b, .bool z.breaker, .bool false] 44)) (wr.alloc (.cells #[.string z.name, .string z.a, .string z.b, .bool z.breaker, .bool false] 44)).heap.size O on opens) := Lib.hid ((HO.out.below HS2.out.low (Nat.le_refl _)).more HS2.out.low.size)
        have HO2 := Lib.hid ho
        clear ho
        go_wp2_with fail
        refine (contains_str O on oc opens z.name _ HOW.out hon).mono ?_
        generalize hc : opens.any (fun x => sEq z.name x) = cc
        rintro e w1 ⟨rfl, rfl⟩
        have HC := Lib.hid hc
        clear hc
        cases cc with
        | true =>
          have HE : Hid (swEd x.nodes opens z = []) := Lib.hid (by unfold swEd; rw [HC.out]; simp)
          go_wp2_with fail
          go_roundw
          case rel => exact ⟨k + 1, v, by omega, by go_num, by rw [HZ.out, HE.out, List.append_nil]; exact HS2.out⟩
          case measure => simp [intOf]; omega
        | false =>
          have HE : Hid (swEd x.nodes opens z = [⟨ndIdx x.nodes z.a, ndIdx x.nodes z.b, z.name, z.breaker, 0⟩]) := Lib.hid (by unfold swEd; rw [HO2.out, HC.out]; rfl)
          have HBX : Hid (Blk (wr.alloc (.cells #[.string z.name, .string z.a, .string z.b, .bool z.breaker, .bool false] 44)) wr.heap.size 44 #[.string z.name, .string z.a, .string z.b, .bool z.breaker, .bool false]) := Lib.hid (Blk.new wr _ _)
          have HRN2 : Hid (RdStr (wr.alloc (.cells #[.string z.name, .string z.a, .string z.b, .bool z.breaker, .bool false] 44)) (wr.alloc (.cells #[.string z.name, .string z.a, .string z.b, .bool z.breaker, .bool false] 44)).heap.size A0 n0 x.nodes) := Lib.hid ((HRN.out.below HWB.out (Nat.le_refl _)).more HWB.out.size)
          go_wp2_with fail
          have hzw : wr.heap.size < (wr.alloc (.cells #[.string z.name, .string z.a, .string z.b, .bool z.breaker, .bool false] 44)).heap.size := by simp
          have hup : Below wr.heap.size wr (wr.alloc (.cells #[.string z.name, .string z.a, .string z.b, .bool z.breaker, .bool false] 44)) := HWB.out
          have hv1 : v.ownBlock ≠ some bf := fun e => by have := (HS.out.own.lt _ e).1; omega
          have hv2 : v.ownBlock ≠ some wr.heap.size := fun e => by have := (HS.out.own.lt _ e).2; omega
          clear HWB HS HWR HOW HRN y0 y1 y2 y3 y4 y5 nf nlt e0 e1 e2 e3 e4 hup
          generalize wr.alloc (.cells #[.string z.name, .string z.a, .string z.b, .bool z.breaker, .bool false] 44) = W at *
          generalize wr.heap.size = zb at *
          have q0 : W.cell? ⟨bf, 0, none⟩ = some v := HS2.out.qf.cell 0
          have q0f : W.frozen? ⟨bf, 0, none⟩ = false := HS2.out.qf.frozen 0
          have b0 : W.cell? ⟨zb, 0, none⟩ = some (.string z.name) := HBX.out.cell 0
          have b1 : W.cell? ⟨zb, 1, none⟩ = some (.string z.a) := HBX.out.cell 1
          have b2 : W.cell? ⟨zb, 2, none⟩ = some (.string z.b) := HBX.out.cell 2
          have b3 : W.cell? ⟨zb, 3, none⟩ = some (.bool z.breaker) := HBX.out.cell 3
          have hsa : z.a ∈ x.nodes := HZS.out.1
          have hsb : z.b ∈ x.nodes := HZS.out.2.1
          have hn63 : n0 ≤ 9223372036854775807 := by omega
          have HE0 := HZL
          generalize hE0 : (x.sws.take k).flatMap (swEd x.nodes opens) = E0 at *
          have HEE := Lib.hid hE0
          clear hE0
          have hbase : bf + 1 ≤ W.heap.size := by omega
          have hzb : zb ≠ bf := by omega
          have hzb' : bf ≠ zb := by omega
          refine wp_region_last (S := fun w' => w'.cell? ⟨bf, 0, none⟩ = some v ∧ w'.cell? ⟨zb, 0, none⟩ = some (.string z.name) ∧ w'.cell? ⟨zb, 1, none⟩ = some (.string z.a) ∧ w'.cell? ⟨zb, 2, none⟩ = some (.string z.b) ∧ w'.cell? ⟨zb, 3, none⟩ = some (.bool z.breaker)) 22 _ (by kernel_rfl) (by kernel_rfl) rfl ⟨q0, b0, b1, b2, b3⟩ (fun hHeld => ?_)
          simp only [List.take_succ_cons, List.take_zero]
          refine takeH 0 (v := ?_) rfl (by kernel_rfl) (fun _ _ _ h => h) (by rfl) ?_ hHeld ?_
          rotate_left 1
          · intro w' hSw; (try dsimp only at hSw); go_simp <;> with_reducible rfl
          try simp only [Act.put, List.setIfInBounds_toArray, List.set_cons_zero, List.set_cons_succ]
          refine takeH 1 (v := ?_) rfl (by kernel_rfl) (fun _ _ _ h => h) (by rfl) ?_ hHeld ?_
          rotate_left 1
          · intro w' hSw; (try dsimp only at hSw); go_simp <;> with_reducible rfl
          try simp only [Act.put, List.setIfInBounds_toArray, List.set_cons_zero, List.set_cons_succ]
          refine takeH 2 (v := ?_) rfl (by kernel_rfl) (fun _ _ _ h => h) (by rfl) ?_ hHeld ?_
          rotate_left 1
          · intro w' hSw; (try dsimp only at hSw); go_simp <;> with_reducible rfl
          try simp only [Act.put, List.setIfInBounds_toArray, List.set_cons_zero, List.set_cons_succ]
          refine takeH 3 (v := ?_) rfl (by kernel_rfl) (fun _ _ _ h => h) (by rfl) ?_ hHeld ?_
          rotate_left 1
          · intro w' hSw; (try dsimp only at hSw); go_simp <;> with_reducible rfl
          try simp only [Act.put, List.setIfInBounds_toArray, List.set_cons_zero, List.set_cons_succ]
          refine takeH 4 (v := ?_) rfl (by kernel_rfl) (fun _ _ _ h => h) (by rfl) ?_ hHeld ?_
          rotate_left 1
          · intro w' hSw; (try dsimp only at hSw); go_simp <;> with_reducible rfl
          try simp only [Act.put, List.setIfInBounds_toArray, List.set_cons_zero, List.set_cons_succ]
          refine takeH 5 (v := ?_) rfl (by kernel_rfl) (fun _ _ _ h => h) (by rfl) ?_ hHeld ?_
          rotate_left 1
          · intro w' hSw; (try dsimp only at hSw); go_simp <;> with_reducible rfl
          try simp only [Act.put, List.setIfInBounds_toArray, List.set_cons_zero, List.set_cons_succ]
          refine takeH 6 (v := ?_) rfl (by kernel_rfl) (fun _ _ _ h => h) (by rfl) ?_ hHeld ?_
          rotate_left 1
          · intro w' hSw; (try dsimp only at hSw); go_simp <;> with_reducible rfl
          try simp only [Act.put, List.setIfInBounds_toArray, List.set_cons_zero, List.set_cons_succ]
          refine takeH 7 (v := ?_) rfl (by kernel_rfl) (fun _ _ _ h => h) (by rfl) ?_ hHeld ?_
          rotate_left 1
          · intro w' hSw; (try dsimp only at hSw); go_simp <;> with_reducible rfl
          try simp only [Act.put, List.setIfInBounds_toArray, List.set_cons_zero, List.set_cons_succ]
          refine takeH 9 (v := ?_) rfl (by kernel_rfl) (fun _ _ _ h => h) (by rfl) ?_ hHeld ?_
          rotate_left 1
          · intro w' hSw; (try dsimp only at hSw); go_simp <;> with_reducible rfl
          try simp only [Act.put, List.setIfInBounds_toArray, List.set_cons_zero, List.set_cons_succ]
          refine takeH 10 (v := ?_) rfl (by kernel_rfl) (fun _ _ _ h => h) (by rfl) ?_ hHeld ?_
          rotate_left 1
          · intro w' hSw; (try dsimp only at hSw); go_simp <;> with_reducible rfl
          try simp only [Act.put, List.setIfInBounds_toArray, List.set_cons_zero, List.set_cons_succ]
          refine takeH 11 (v := ?_) rfl (by kernel_rfl) (fun _ _ _ h => h) (by rfl) ?_ hHeld ?_
          rotate_left 1
          · intro w' hSw; (try dsimp only at hSw); go_simp <;> with_reducible rfl
          try simp only [Act.put, List.setIfInBounds_toArray, List.set_cons_zero, List.set_cons_succ]
          refine takeH 13 (v := ?_) rfl (by kernel_rfl) (fun _ _ _ h => h) (by rfl) ?_ hHeld ?_
          rotate_left 1
          · intro w' hSw; (try dsimp only at hSw); go_simp <;> with_reducible rfl
          try simp only [Act.put, List.setIfInBounds_toArray, List.set_cons_zero, List.set_cons_succ]
          refine takeH 14 (v := ?_) rfl (by kernel_rfl) (fun _ _ _ h => h) (by rfl) ?_ hHeld ?_
          rotate_left 1
          · intro w' hSw; (try dsimp only at hSw); go_simp <;> with_reducible rfl
          try simp only [Act.put, List.setIfInBounds_toArray, List.set_cons_zero, List.set_cons_succ]
          refine takeH 15 (v := ?_) rfl (by kernel_rfl) (fun _ _ _ h => h) (by rfl) ?_ hHeld ?_
          rotate_left 1
          · intro w' hSw; (try dsimp only at hSw); go_simp <;> with_reducible rfl
          try simp only [Act.put, List.setIfInBounds_toArray, List.set_cons_zero, List.set_cons_succ]
          refine takeH 16 (v := ?_) rfl (by kernel_rfl) (fun _ _ _ h => h) (by rfl) ?_ hHeld ?_
          rotate_left 1
          · intro w' hSw; (try dsimp only at hSw); go_simp <;> with_reducible rfl
          try simp only [Act.put, List.setIfInBounds_toArray, List.set_cons_zero, List.set_cons_succ]
          refine stepH 8 (by kernel_rfl) rfl (fun K hK => ?_)
          go_simp
          refine (at_any ⟨A0, n0, c0, some ⟨bz, oz, none⟩, n1, c1, A2, n2, c2, A3, n3, c3, A4, n4, c4, A5, n5, c5⟩ x.nodes z.a w.heap.size _ HS2.out.q1.drew HRN2.out hn63 hsa).mono ?_
          rintro e w' ⟨rfl, rfl⟩
          go_simp
          refine hK.out _ _ ?_ (fun hHeld => ?_)
          · exact hHeld
          clear hK K
          try simp only [Act.put, List.setIfInBounds_toArray, List.set_cons_zero, List.set_cons_succ]
          refine stepH 12 (by kernel_rfl) rfl (fun K hK => ?_)
          go_simp
          refine (at_any ⟨A0, n0, c0, some ⟨bz, oz, none⟩, n1, c1, A2, n2, c2, A3, n3, c3, A4, n4, c4, A5, n5, c5⟩ x.nodes z.b w.heap.size _ HS2.out.q1.drew HRN2.out hn63 hsb).mono ?_
          rintro e w' ⟨rfl, rfl⟩
          go_simp
          refine hK.out _ _ ?_ (fun hHeld => ?_)
          · exact hHeld
          clear hK K
          try simp only [Act.put, List.setIfInBounds_toArray, List.set_cons_zero, List.set_cons_succ]
          refine takeH 17 (v := ?_) rfl (by kernel_rfl) (fun _ _ _ h => h) (by rfl) ?_ hHeld ?_
          rotate_left 1
          · intro w' hSw; (try dsimp only at hSw); go_simp <;> with_reducible rfl
          try simp only [Act.put, List.setIfInBounds_toArray, List.set_cons_zero, List.set_cons_succ]
          refine stepH 18 (by kernel_rfl) rfl (fun K hK => ?_)
          go_simp
          refine hK.out _ _ ?_ (fun hHeld => ?_)
          · exact ⟨cell_al q0 (by omega), cell_al b0 (by omega), cell_al b1 (by omega), cell_al b2 (by omega), cell_al b3 (by omega)⟩
          clear hK K
          try simp only [Act.put, List.setIfInBounds_toArray, List.set_cons_zero, List.set_cons_succ]
          refine stepH 19 (by kernel_rfl) rfl (fun K hK => ?_)
          refine step_append_lies _ (by rfl) _ _ _ (by rfl) (bf + 1) 104 i0 _ 5 48 Try.underlying102 HI0.out HI1.out HI2.out HI3.out rfl (by omega) v _ _ (by rfl) ((HS2.out.own.alloc _).drew) ⟨W.heap.size, 0, none⟩ 1 1 (Ed.cells ⟨ndIdx x.nodes z.a, ndIdx x.nodes z.b, z.name, z.breaker, 0⟩) (by rfl) (by rfl) (ed_news W ⟨ndIdx x.nodes z.a, ndIdx x.nodes z.b, z.name, z.breaker, 0⟩ 104) (ed_one _) (by omega) (by have := HZL.out; simp only [maxLen]; omega) (by have := HZL.out; omega) (by simp; omega) (W.heap.size + 1) (by simp) ?_
          intro gg cap w1 hown1 hgrow hat hlt1
          refine hK.out _ _ ?_ (fun hHeld => ?_)
          · exact ⟨(hgrow.cell_far ⟨bf, 0, none⟩ (by simp; omega) (Ne.symm hv1)).trans (cell_al q0 (by omega)), (hgrow.cell_far ⟨zb, 0, none⟩ (by simp; omega) (Ne.symm hv2)).trans (cell_al b0 (by omega)), (hgrow.cell_far ⟨zb, 1, none⟩ (by simp; omega) (Ne.symm hv2)).trans (cell_al b1 (by omega)), (hgrow.cell_far ⟨zb, 2, none⟩ (by simp; omega) (Ne.symm hv2)).trans (cell_al b2 (by omega)), (hgrow.cell_far ⟨zb, 3, none⟩ (by simp; omega) (Ne.symm hv2)).trans (cell_al b3 (by omega))⟩
          clear hK K
          try simp only [Act.put, List.setIfInBounds_toArray, List.set_cons_zero, List.set_cons_succ]
          refine takeH 20 (v := ?_) rfl (by kernel_rfl) (fun _ _ _ h => h) (by rfl) ?_ hHeld ?_
          rotate_left 1
          · intro w' hSw; (try dsimp only at hSw); go_simp <;> with_reducible rfl
          try simp only [Act.put, List.setIfInBounds_toArray, List.set_cons_zero, List.set_cons_succ]
          refine takeH 21 (v := ?_) rfl (by kernel_rfl) (fun _ _ _ h => h) (by rfl) ?_ hHeld ?_
          rotate_left 1
          · intro w' hSw; (try dsimp only at hSw); go_simp <;> with_reducible rfl
          try simp only [Act.put, List.setIfInBounds_toArray, List.set_cons_zero, List.set_cons_succ]
          refine wpAnyH_done (by kernel_rfl) ?_ _
          refine lastQ_go (by rfl) ?_
          have hf1 : w1.frozen? ⟨bf, 0, none⟩ = false := (hgrow.frozen_far ⟨bf, 0, none⟩ (by simp; omega) (Ne.symm hv1)).trans (frz_alloc q0f (by omega))
          have hbb : Below (bf + 1) W w1 := (below_drew ((Below.refl _ _).alloc hbase _)).grown hgrow (by simp; omega) (fun k hk => (HS2.out.own.lt k hk).1)
          have HS5 : Hid (FoS w bf ⟨A0, n0, c0, some ⟨bz, oz, none⟩, n1, c1, A2, n2, c2, A3, n3, c3, A4, n4, c4, A5, n5, c5⟩ p (w1.setCell ⟨bf, 0, none⟩ (.slice (some ⟨gg, 0, none⟩) (E0.length + 1) cap)) n0 n0 (.slice (some ⟨gg, 0, none⟩) (E0.length + 1) cap) ((x.sws.take (k + 1)).flatMap (swEd x.nodes opens))) := Lib.hid (HS2.out.app hbb (by
            rw [HZ.out, HE.out, List.length_append, List.flatMap_append]
            simpa using hown1))
          clear hbb hgrow hat hown1
          obtain ⟨hc1, _⟩ := hHeld
          go_simp
          go_wp2_with fail
          go_roundw
          case rel => exact ⟨k + 1, _, by omega, by go_num, HS5.out⟩
          case measure => simp [intOf]; omega
    · have hkk : n1 = k := by omega
      subst hkk
      have HSA : Hid (FoS w bf ⟨A0, n0, c0, A1, n1, c1, A2, n2, c2, A3, n3, c3, A4, n4, c4, A5, n5, c5⟩ p wr n0 n0 v (x.sws.flatMap (swEd x.nodes opens))) := Lib.hid (by have h := HS.out; rw [List.take_of_length_le (by have := HN1.out; omega)] at h; exact h)
      clear HS HWR
      go_wp2_with fail
      obtain ⟨wo, hwo⟩ : ∃ wo : World, wo = wr := ⟨_, rfl⟩
      clear hwo
      go_loopw [70] (fun i wr => ∃ (k : Nat) (v : Value), k ≤ n2 ∧ i = .int .i64 k ∧ FoS w bf ⟨A0, n0, c0, A1, n1, c1, A2, n2, c2, A3, n3, c3, A4, n4, c4, A5, n5, c5⟩ p wr n0 ((x.brs.take k).foldl (plc1 x.nodes p) n0) v (x.sws.flatMap (swEd x.nodes opens) ++ (x.brs.take k).flatMap (brEd x.nodes p))) (fun i _ => n2 - (intOf i).toNat)
      case atStart => exact ⟨0, _, by omega, rfl, by rw [List.take_zero, List.flatMap_nil, List.append_nil]; exact HSA.out⟩
      case round =>
        clear HSA y0 y1 y2 y3 y4 y5 nf nlt
        obtain ⟨k, v, hk, rfl, hs⟩ := hrel
        have HS := Lib.hid hs
        obtain ⟨y0, y1, y2, y3, y4, y5, nf, nlt⟩ := net_box hs.q1
        have p0 := hs.q3.cell 0
        have p1 := hs.q3.cell 1
        have hsz2 := hs.sz
        clear hs
        have HWR := Lib.hid (Below.refl wr.heap.size wr)
        by_cases hlt : k < n2
        · obtain ⟨z, hz⟩ : ∃ z, x.brs[k]? = some z := ⟨_, List.getElem?_eq_getElem (by have := HN2.out; omega)⟩
          have hrw := HR.out.up HS.out.low
          obtain ⟨bz, oz, hA, hbz⟩ := hrw.r2.form (by dsimp only; omega)
          dsimp only at hA
          subst hA
          obtain ⟨e0, e1, e2, e3, e4, e5, e6, e7, e8⟩ := hrw.r2.at_ hz
          have HRN := Lib.hid hrw.r0
          have HZS := Lib.hid (HOK.out.br z (List.mem_of_getElem? hz))
          have HZ := Lib.hid (take_flatMap (brEd x.nodes p) hz)
          have HZP := Lib.hid (take_foldl (plc1 x.nodes p) n0 hz)
          have HZL : Hid ((x.sws.flatMap (swEd x.nodes opens) ++ (x.brs.take k).flatMap (brEd x.nodes p)).length ≤ 1000) := Lib.hid (by
            have h1 := len_flatMap_le (swEd x.nodes opens) 1 (swEd_len x.nodes opens) x.sws
            have h2 := len_flatMap_le (brEd x.nodes p) 2 (brEd_len x.nodes p) (x.brs.take k)
            have := HN1.out
            rw [List.length_take] at h2; rw [List.length_append]; omega)
          clear hz hrw
          have HWB := Lib.hid (HWR.out.alloc (Nat.le_refl _) (.cells #[.string z.name, .string z.fr, .string z.to, .int .i64 z.x, .int .i64 z.tap, .int .i64 z.shift, .int .i64 z.limit, .int .i64 z.short, .int .i64 z.hold] 49))
          have HS2 := Lib.hid (HS.out.up HWB.out)
          have hp0 := HS2.out.q3.cell 0
          have hp1 := HS2.out.q3.cell 1
          clear p0 p1
          cases hsm : sEq z.name p.branch with
          | false =>
            have HE : Hid (brEd x.nodes p z = [⟨ndIdx x.nodes z.fr, ndIdx x.nodes z.to, z.name, false, 0⟩]) := Lib.hid (by unfold brEd; rw [hsm]; rfl)
            have HPV : Hid (plc1 x.nodes p ((x.brs.take k).foldl (plc1 x.nodes p) n0) z = (x.brs.take k).foldl (plc1 x.nodes p) n0) := Lib.hid (by unfold plc1; rw [hsm]; rfl)
            have HBX : Hid (Blk (wr.alloc (.cells #[.string z.name, .string z.fr, .string z.to, .int .i64 z.x, .int .i64 z.tap, .int .i64 z.shift, .int .i64 z.limit, .int .i64 z.short, .int .i64 z.hold] 49)) wr.heap.size 49 #[.string z.name, .string z.fr, .string z.to, .int .i64 z.x, .int .i64 z.tap, .int .i64 z.shift, .int .i64 z.limit, .int .i64 z.short, .int .i64 z.hold]) := Lib.hid (Blk.new wr _ _)
            have HRN2 : Hid (RdStr (wr.alloc (.cells #[.string z.name, .string z.fr, .string z.to, .int .i64 z.x, .int .i64 z.tap, .int .i64 z.shift, .int .i64 z.limit, .int .i64 z.short, .int .i64 z.hold] 49)) (wr.alloc (.cells #[.string z.name, .string z.fr, .string z.to, .int .i64 z.x, .int .i64 z.tap, .int .i64 z.shift, .int .i64 z.limit, .int .i64 z.short, .int .i64 z.hold] 49)).heap.size A0 n0 x.nodes) := Lib.hid ((HRN.out.below HWB.out (Nat.le_refl _)).more HWB.out.size)
            go_wp2_with fail
            have hzw : wr.heap.size < (wr.alloc (.cells #[.string z.name, .string z.fr, .string z.to, .int .i64 z.x, .int .i64 z.tap, .int .i64 z.shift, .int .i64 z.limit, .int .i64 z.short, .int .i64 z.hold] 49)).heap.size := by simp
            have hv1 : v.ownBlock ≠ some bf := fun e => by have := (HS.out.own.lt _ e).1; omega
            have hv2 : v.ownBlock ≠ some wr.heap.size := fun e => by have := (HS.out.own.lt _ e).2; omega
            clear HWB HS HWR HRN y0 y1 y2 y3 y4 y5 nf nlt e0 e1 e2 e3 e4 e5 e6 e7 e8
            generalize wr.alloc (.cells #[.string z.name, .string z.fr, .string z.to, .int .i64 z.x, .int .i64 z.tap, .int .i64 z.shift, .int .i64 z.limit, .int .i64 z.short, .int .i64 z.hold] 49) = W at *
            generalize wr.heap.size = zb at *
            have q0 : W.cell? ⟨bf, 0, none⟩ = some v := HS2.out.qf.cell 0
            have q0f : W.frozen? ⟨bf, 0, none⟩ = false := HS2.out.qf.frozen 0
            have q1 : W.cell? ⟨bf, 1, none⟩ = some (.int .i64 ((((x.brs.take k).foldl (plc1 x.nodes p) n0) : Nat) : Int)) := HS2.out.qf.cell 1
            have b0 : W.cell? ⟨zb, 0, none⟩ = some (.string z.name) := HBX.out.cell 0
            have b1 : W.cell? ⟨zb, 1, none⟩ = some (.string z.fr) := HBX.out.cell 1
            have b2 : W.cell? ⟨zb, 2, none⟩ = some (.string z.to) := HBX.out.cell 2
            have hsa : z.fr ∈ x.nodes := HZS.out.1
            have hsb : z.to ∈ x.nodes := HZS.out.2.1
            have hn63 : n0 ≤ 9223372036854775807 := by omega
            generalize hE0 : x.sws.flatMap (swEd x.nodes opens) ++ (x.brs.take k).flatMap (brEd x.nodes p) = E0 at *
            have HEE := Lib.hid hE0
            clear hE0
            have hbase : bf + 1 ≤ W.heap.size := by omega
            have hzb : zb ≠ bf := by omega
            have hzb' : bf ≠ zb := by omega
            refine wp_region_last (S := fun w' => w'.cell? ⟨bf, 0, none⟩ = some v ∧ w'.cell? ⟨zb, 0, none⟩ = some (.string z.name) ∧ w'.cell? ⟨zb, 1, none⟩ = some (.string z.fr) ∧ w'.cell? ⟨zb, 2, none⟩ = some (.string z.to)) 20 _ (by kernel_rfl) (by kernel_rfl) rfl ⟨q0, b0, b1, b2⟩ (fun hHeld => ?_)
            simp only [List.take_succ_cons, List.take_zero]
            refine takeH 0 (v := ?_) rfl (by kernel_rfl) (fun _ _ _ h => h) (by rfl) ?_ hHeld ?_
            rotate_left 1
            · intro w' hSw; (try dsimp only at hSw); go_simp <;> with_reducible rfl
            try simp only [Act.put, List.setIfInBounds_toArray, List.set_cons_zero, List.set_cons_succ]
            refine takeH 1 (v := ?_) rfl (by kernel_rfl) (fun _ _ _ h => h) (by rfl) ?_ hHeld ?_
            rotate_left 1
            · intro w' hSw; (try dsimp only at hSw); go_simp <;> with_reducible rfl
            try simp only [Act.put, List.setIfInBounds_toArray, List.set_cons_zero, List.set_cons_succ]
            refine takeH 2 (v := ?_) rfl (by kernel_rfl) (fun _ _ _ h => h) (by rfl) ?_ hHeld ?_
            rotate_left 1
            · intro w' hSw; (try dsimp only at hSw); go_simp <;> with_reducible rfl
            try simp only [Act.put, List.setIfInBounds_toArray, List.set_cons_zero, List.set_cons_succ]
            refine takeH 3 (v := ?_) rfl (by kernel_rfl) (fun _ _ _ h => h) (by rfl) ?_ hHeld ?_
            rotate_left 1
            · intro w' hSw; (try dsimp only at hSw); go_simp <;> with_reducible rfl
            try simp only [Act.put, List.setIfInBounds_toArray, List.set_cons_zero, List.set_cons_succ]
            refine takeH 4 (v := ?_) rfl (by kernel_rfl) (fun _ _ _ h => h) (by rfl) ?_ hHeld ?_
            rotate_left 1
            · intro w' hSw; (try dsimp only at hSw); go_simp <;> with_reducible rfl
            try simp only [Act.put, List.setIfInBounds_toArray, List.set_cons_zero, List.set_cons_succ]
            refine takeH 5 (v := ?_) rfl (by kernel_rfl) (fun _ _ _ h => h) (by rfl) ?_ hHeld ?_
            rotate_left 1
            · intro w' hSw; (try dsimp only at hSw); go_simp <;> with_reducible rfl
            try simp only [Act.put, List.setIfInBounds_toArray, List.set_cons_zero, List.set_cons_succ]
            refine takeH 6 (v := ?_) rfl (by kernel_rfl) (fun _ _ _ h => h) (by rfl) ?_ hHeld ?_
            rotate_left 1
            · intro w' hSw; (try dsimp only at hSw); go_simp <;> with_reducible rfl
            try simp only [Act.put, List.setIfInBounds_toArray, List.set_cons_zero, List.set_cons_succ]
            refine takeH 7 (v := ?_) rfl (by kernel_rfl) (fun _ _ _ h => h) (by rfl) ?_ hHeld ?_
            rotate_left 1
            · intro w' hSw; (try dsimp only at hSw); go_simp <;> with_reducible rfl
            try simp only [Act.put, List.setIfInBounds_toArray, List.set_cons_zero, List.set_cons_succ]
            refine takeH 9 (v := ?_) rfl (by kernel_rfl) (fun _ _ _ h => h) (by rfl) ?_ hHeld ?_
            rotate_left 1
            · intro w' hSw; (try dsimp only at hSw); go_simp <;> with_reducible rfl
            try simp only [Act.put, List.setIfInBounds_toArray, List.set_cons_zero, List.set_cons_succ]
            refine takeH 10 (v := ?_) rfl (by kernel_rfl) (fun _ _ _ h => h) (by rfl) ?_ hHeld ?_
            rotate_left 1
            · intro w' hSw; (try dsimp only at hSw); go_simp <;> with_reducible rfl
            try simp only [Act.put, List.setIfInBounds_toArray, List.set_cons_zero, List.set_cons_succ]
            refine takeH 11 (v := ?_) rfl (by kernel_rfl) (fun _ _ _ h => h) (by rfl) ?_ hHeld ?_
            rotate_left 1
            · intro w' hSw; (try dsimp only at hSw); go_simp <;> with_reducible rfl
            try simp only [Act.put, List.setIfInBounds_toArray, List.set_cons_zero, List.set_cons_succ]
            refine takeH 13 (v := ?_) rfl (by kernel_rfl) (fun _ _ _ h => h) (by rfl) ?_ hHeld ?_
            rotate_left 1
            · intro w' hSw; (try dsimp only at hSw); go_simp <;> with_reducible rfl
            try simp only [Act.put, List.setIfInBounds_toArray, List.set_cons_zero, List.set_cons_succ]
            refine takeH 14 (v := ?_) rfl (by kernel_rfl) (fun _ _ _ h => h) (by rfl) ?_ hHeld ?_
            rotate_left 1
            · intro w' hSw; (try dsimp only at hSw); go_simp <;> with_reducible rfl
            try simp only [Act.put, List.setIfInBounds_toArray, List.set_cons_zero, List.set_cons_succ]
            refine stepH 8 (by kernel_rfl) rfl (fun K hK => ?_)
            go_simp
            refine (at_any ⟨A0, n0, c0, A1, n1, c1, some ⟨bz, oz, none⟩, n2, c2, A3, n3, c3, A4, n4, c4, A5, n5, c5⟩ x.nodes z.fr w.heap.size _ HS2.out.q1.drew HRN2.out hn63 hsa).mono ?_
            rintro e w' ⟨rfl, rfl⟩
            go_simp
            refine hK.out _ _ ?_ (fun hHeld => ?_)
            · exact hHeld
            clear hK K
            try simp only [Act.put, List.setIfInBounds_toArray, List.set_cons_zero, List.set_cons_succ]
            refine stepH 12 (by kernel_rfl) rfl (fun K hK => ?_)
            go_simp
            refine (at_any ⟨A0, n0, c0, A1, n1, c1, some ⟨bz, oz, none⟩, n2, c2, A3, n3, c3, A4, n4, c4, A5, n5, c5⟩ x.nodes z.to w.heap.size _ HS2.out.q1.drew HRN2.out hn63 hsb).mono ?_
            rintro e w' ⟨rfl, rfl⟩
            go_simp
            refine hK.out _ _ ?_ (fun hHeld => ?_)
            · exact hHeld
            clear hK K
            try simp only [Act.put, List.setIfInBounds_toArray, List.set_cons_zero, List.set_cons_succ]
            refine takeH 15 (v := ?_) rfl (by kernel_rfl) (fun _ _ _ h => h) (by rfl) ?_ hHeld ?_
            rotate_left 1
            · intro w' hSw; (try dsimp only at hSw); go_simp <;> with_reducible rfl
            try simp only [Act.put, List.setIfInBounds_toArray, List.set_cons_zero, List.set_cons_succ]
            refine stepH 16 (by kernel_rfl) rfl (fun K hK => ?_)
            go_simp
            refine hK.out _ _ ?_ (fun hHeld => ?_)
            · exact ⟨cell_al q0 (by omega), cell_al b0 (by omega), cell_al b1 (by omega), cell_al b2 (by omega)⟩
            clear hK K
            try simp only [Act.put, List.setIfInBounds_toArray, List.set_cons_zero, List.set_cons_succ]
            refine stepH 17 (by kernel_rfl) rfl (fun K hK => ?_)
            refine step_append_lies _ (by rfl) _ _ _ (by rfl) (bf + 1) 104 i0 _ 5 48 Try.underlying102 HI0.out HI1.out HI2.out HI3.out rfl (by omega) v _ _ (by rfl) ((HS2.out.own.alloc _).drew) ⟨W.heap.size, 0, none⟩ 1 1 (Ed.cells ⟨ndIdx x.nodes z.fr, ndIdx x.nodes z.to, z.name, false, 0⟩) (by rfl) (by rfl) (ed_news W ⟨ndIdx x.nodes z.fr, ndIdx x.nodes z.to, z.name, false, 0⟩ 104) (ed_one _) (by omega) (by have := HZL.out; simp only [maxLen]; omega) (by have := HZL.out; omega) (by simp; omega) (W.heap.size + 1) (by simp) ?_
            intro gg cap w1 hown1 hgrow hat hlt1
            refine hK.out _ _ ?_ (fun hHeld => ?_)
            · exact ⟨(hgrow.cell_far ⟨bf, 0, none⟩ (by simp; omega) (Ne.symm hv1)).trans (cell_al q0 (by omega)), (hgrow.cell_far ⟨zb, 0, none⟩ (by simp; omega) (Ne.symm hv2)).trans (cell_al b0 (by omega)), (hgrow.cell_far ⟨zb, 1, none⟩ (by simp; omega) (Ne.symm hv2)).trans (cell_al b1 (by omega)), (hgrow.cell_far ⟨zb, 2, none⟩ (by simp; omega) (Ne.symm hv2)).trans (cell_al b2 (by omega))⟩
            clear hK K
            try simp only [Act.put, List.setIfInBounds_toArray, List.set_cons_zero, List.set_cons_succ]
            refine takeH 18 (v := ?_) rfl (by kernel_rfl) (fun _ _ _ h => h) (by rfl) ?_ hHeld ?_
            rotate_left 1
            · intro w' hSw; (try dsimp only at hSw); go_simp <;> with_reducible rfl
            try simp only [Act.put, List.setIfInBounds_toArray, List.set_cons_zero, List.set_cons_succ]
            refine takeH 19 (v := ?_) rfl (by kernel_rfl) (fun _ _ _ h => h) (by rfl) ?_ hHeld ?_
            rotate_left 1
            · intro w' hSw; (try dsimp only at hSw); go_simp <;> with_reducible rfl
            try simp only [Act.put, List.setIfInBounds_toArray, List.set_cons_zero, List.set_cons_succ]
            refine wpAnyH_done (by kernel_rfl) ?_ _
            refine lastQ_go (by rfl) ?_
            have hf1 : w1.frozen? ⟨bf, 0, none⟩ = false := (hgrow.frozen_far ⟨bf, 0, none⟩ (by simp; omega) (Ne.symm hv1)).trans (frz_alloc q0f (by omega))
            have hbb : Below (bf + 1) W w1 := (below_drew ((Below.refl _ _).alloc hbase _)).grown hgrow (by simp; omega) (fun k hk => (HS2.out.own.lt k hk).1)
            have HS5 : Hid (FoS w bf ⟨A0, n0, c0, A1, n1, c1, some ⟨bz, oz, none⟩, n2, c2, A3, n3, c3, A4, n4, c4, A5, n5, c5⟩ p (w1.setCell ⟨bf, 0, none⟩ (.slice (some ⟨gg, 0, none⟩) (E0.length + 1) cap)) n0 ((x.brs.take k).foldl (plc1 x.nodes p) n0) (.slice (some ⟨gg, 0, none⟩) (E0.length + 1) cap) (x.sws.flatMap (swEd x.nodes opens) ++ (x.brs.take (k + 1)).flatMap (brEd x.nodes p))) := Lib.hid (HS2.out.app hbb (by
              rw [HZ.out, HE.out, ← List.append_assoc, HEE.out, List.length_append, List.flatMap_append]
              simpa using hown1))
            have hcc := hHeld
            have zz : ∀ i v, w1.cell? ⟨zb, i, none⟩ = some v → (w1.setCell ⟨bf, 0, none⟩ (.slice (some ⟨gg, 0, none⟩) (E0.length + 1) cap)).cell? ⟨zb, i, none⟩ = some v := fun i v h => by rw [World.cell?_setCell_other _ _ _ _ (fun e => hzb' (by injection e))]; exact h
            obtain ⟨hc1, hz0, hz1, hz2⟩ := hHeld
            have z0 := zz _ _ hz0
            have z1 := zz _ _ hz1
            have z2 := zz _ _ hz2
            clear hbb hgrow hat hown1 zz hcc
            go_simp
            clear hc1 hz0 hz1 hz2 hf1
            generalize (w1.setCell ⟨bf, 0, none⟩ (.slice (some ⟨gg, 0, none⟩) (E0.length + 1) cap)) = W5 at *
            generalize (Value.slice (some (⟨gg, 0, none⟩ : Addr)) (E0.length + 1) cap) = v5 at *
            have p0 := HS5.out.q3.cell 0
            have p1 := HS5.out.q3.cell 1
            go_wp2_with fail
            go_roundw
            case rel => exact ⟨k + 1, _, by omega, by go_num, by rw [HZP.out, HPV.out]; exact HS5.out⟩
            case measure => simp [intOf]; omega
          | true =>
            by_cases h0 : p.part = 0
            · have hmid : mid p = false := by unfold mid; rw [h0]; rfl
              have hpt : ¬ 0 < p.part := by omega
              have HE : Hid (brEd x.nodes p z = [⟨ndIdx x.nodes z.fr, ndIdx x.nodes z.to, z.name, false, 0⟩]) := Lib.hid (by unfold brEd; rw [hsm, hmid]; rfl)
              have HPV : Hid (plc1 x.nodes p ((x.brs.take k).foldl (plc1 x.nodes p) n0) z = ndIdx x.nodes z.fr) := Lib.hid (by unfold plc1; rw [hsm, hmid]; simp [hpt])
              have ht0 : (p.part == 0) = true := by simpa using h0
              clear hmid h0
              have HBX : Hid (Blk (wr.alloc (.cells #[.string z.name, .string z.fr, .string z.to, .int .i64 z.x, .int .i64 z.tap, .int .i64 z.shift, .int .i64 z.limit, .int .i64 z.short, .int .i64 z.hold] 49)) wr.heap.size 49 #[.string z.name, .string z.fr, .string z.to, .int .i64 z.x, .int .i64 z.tap, .int .i64 z.shift, .int .i64 z.limit, .int .i64 z.short, .int .i64 z.hold]) := Lib.hid (Blk.new wr _ _)
              have HRN2 : Hid (RdStr (wr.alloc (.cells #[.string z.name, .string z.fr, .string z.to, .int .i64 z.x, .int .i64 z.tap, .int .i64 z.shift, .int .i64 z.limit, .int .i64 z.short, .int .i64 z.hold] 49)) (wr.alloc (.cells #[.string z.name, .string z.fr, .string z.to, .int .i64 z.x, .int .i64 z.tap, .int .i64 z.shift, .int .i64 z.limit, .int .i64 z.short, .int .i64 z.hold] 49)).heap.size A0 n0 x.nodes) := Lib.hid ((HRN.out.below HWB.out (Nat.le_refl _)).more HWB.out.size)
              go_wp2_with fail
              have hzw : wr.heap.size < (wr.alloc (.cells #[.string z.name, .string z.fr, .string z.to, .int .i64 z.x, .int .i64 z.tap, .int .i64 z.shift, .int .i64 z.limit, .int .i64 z.short, .int .i64 z.hold] 49)).heap.size := by simp
              have hv1 : v.ownBlock ≠ some bf := fun e => by have := (HS.out.own.lt _ e).1; omega
              have hv2 : v.ownBlock ≠ some wr.heap.size := fun e => by have := (HS.out.own.lt _ e).2; omega
              clear HWB HS HWR HRN y0 y1 y2 y3 y4 y5 nf nlt e0 e1 e2 e3 e4 e5 e6 e7 e8
              generalize wr.alloc (.cells #[.string z.name, .string z.fr, .string z.to, .int .i64 z.x, .int .i64 z.tap, .int .i64 z.shift, .int .i64 z.limit, .int .i64 z.short, .int .i64 z.hold] 49) = W at *
              generalize wr.heap.size = zb at *
              have q0 : W.cell? ⟨bf, 0, none⟩ = some v := HS2.out.qf.cell 0
              have q0f : W.frozen? ⟨bf, 0, none⟩ = false := HS2.out.qf.frozen 0
              have q1 : W.cell? ⟨bf, 1, none⟩ = some (.int .i64 ((((x.brs.take k).foldl (plc1 x.nodes p) n0) : Nat) : Int)) := HS2.out.qf.cell 1
              have b0 : W.cell? ⟨zb, 0, none⟩ = some (.string z.name) := HBX.out.cell 0
              have b1 : W.cell? ⟨zb, 1, none⟩ = some (.string z.fr) := HBX.out.cell 1
              have b2 : W.cell? ⟨zb, 2, none⟩ = some (.string z.to) := HBX.out.cell 2
              have hsa : z.fr ∈ x.nodes := HZS.out.1
              have hsb : z.to ∈ x.nodes := HZS.out.2.1
              have hn63 : n0 ≤ 9223372036854775807 := by omega
              generalize hE0 : x.sws.flatMap (swEd x.nodes opens) ++ (x.brs.take k).flatMap (brEd x.nodes p) = E0 at *
              have HEE := Lib.hid hE0
              clear hE0
              have hbase : bf + 1 ≤ W.heap.size := by omega
              have hzb : zb ≠ bf := by omega
              have hzb' : bf ≠ zb := by omega
              refine wp_region_last (S := fun w' => w'.cell? ⟨bf, 0, none⟩ = some v ∧ w'.cell? ⟨zb, 0, none⟩ = some (.string z.name) ∧ w'.cell? ⟨zb, 1, none⟩ = some (.string z.fr) ∧ w'.cell? ⟨zb, 2, none⟩ = some (.string z.to)) 20 _ (by kernel_rfl) (by kernel_rfl) rfl ⟨q0, b0, b1, b2⟩ (fun hHeld => ?_)
              simp only [List.take_succ_cons, List.take_zero]
              refine takeH 0 (v := ?_) rfl (by kernel_rfl) (fun _ _ _ h => h) (by rfl) ?_ hHeld ?_
              rotate_left 1
              · intro w' hSw; (try dsimp only at hSw); go_simp <;> with_reducible rfl
              try simp only [Act.put, List.setIfInBounds_toArray, List.set_cons_zero, List.set_cons_succ]
              refine takeH 1 (v := ?_) rfl (by kernel_rfl) (fun _ _ _ h => h) (by rfl) ?_ hHeld ?_
              rotate_left 1
              · intro w' hSw; (try dsimp only at hSw); go_simp <;> with_reducible rfl
              try simp only [Act.put, List.setIfInBounds_toArray, List.set_cons_zero, List.set_cons_succ]
              refine takeH 2 (v := ?_) rfl (by kernel_rfl) (fun _ _ _ h => h) (by rfl) ?_ hHeld ?_
              rotate_left 1
              · intro w' hSw; (try dsimp only at hSw); go_simp <;> with_reducible rfl
              try simp only [Act.put, List.setIfInBounds_toArray, List.set_cons_zero, List.set_cons_succ]
              refine takeH 3 (v := ?_) rfl (by kernel_rfl) (fun _ _ _ h => h) (by rfl) ?_ hHeld ?_
              rotate_left 1
              · intro w' hSw; (try dsimp only at hSw); go_simp <;> with_reducible rfl
              try simp only [Act.put, List.setIfInBounds_toArray, List.set_cons_zero, List.set_cons_succ]
              refine takeH 4 (v := ?_) rfl (by kernel_rfl) (fun _ _ _ h => h) (by rfl) ?_ hHeld ?_
              rotate_left 1
              · intro w' hSw; (try dsimp only at hSw); go_simp <;> with_reducible rfl
              try simp only [Act.put, List.setIfInBounds_toArray, List.set_cons_zero, List.set_cons_succ]
              refine takeH 5 (v := ?_) rfl (by kernel_rfl) (fun _ _ _ h => h) (by rfl) ?_ hHeld ?_
              rotate_left 1
              · intro w' hSw; (try dsimp only at hSw); go_simp <;> with_reducible rfl
              try simp only [Act.put, List.setIfInBounds_toArray, List.set_cons_zero, List.set_cons_succ]
              refine takeH 6 (v := ?_) rfl (by kernel_rfl) (fun _ _ _ h => h) (by rfl) ?_ hHeld ?_
              rotate_left 1
              · intro w' hSw; (try dsimp only at hSw); go_simp <;> with_reducible rfl
              try simp only [Act.put, List.setIfInBounds_toArray, List.set_cons_zero, List.set_cons_succ]
              refine takeH 7 (v := ?_) rfl (by kernel_rfl) (fun _ _ _ h => h) (by rfl) ?_ hHeld ?_
              rotate_left 1
              · intro w' hSw; (try dsimp only at hSw); go_simp <;> with_reducible rfl
              try simp only [Act.put, List.setIfInBounds_toArray, List.set_cons_zero, List.set_cons_succ]
              refine takeH 9 (v := ?_) rfl (by kernel_rfl) (fun _ _ _ h => h) (by rfl) ?_ hHeld ?_
              rotate_left 1
              · intro w' hSw; (try dsimp only at hSw); go_simp <;> with_reducible rfl
              try simp only [Act.put, List.setIfInBounds_toArray, List.set_cons_zero, List.set_cons_succ]
              refine takeH 10 (v := ?_) rfl (by kernel_rfl) (fun _ _ _ h => h) (by rfl) ?_ hHeld ?_
              rotate_left 1
              · intro w' hSw; (try dsimp only at hSw); go_simp <;> with_reducible rfl
              try simp only [Act.put, List.setIfInBounds_toArray, List.set_cons_zero, List.set_cons_succ]
              refine takeH 11 (v := ?_) rfl (by kernel_rfl) (fun _ _ _ h => h) (by rfl) ?_ hHeld ?_
              rotate_left 1
              · intro w' hSw; (try dsimp only at hSw); go_simp <;> with_reducible rfl
              try simp only [Act.put, List.setIfInBounds_toArray, List.set_cons_zero, List.set_cons_succ]
              refine takeH 13 (v := ?_) rfl (by kernel_rfl) (fun _ _ _ h => h) (by rfl) ?_ hHeld ?_
              rotate_left 1
              · intro w' hSw; (try dsimp only at hSw); go_simp <;> with_reducible rfl
              try simp only [Act.put, List.setIfInBounds_toArray, List.set_cons_zero, List.set_cons_succ]
              refine takeH 14 (v := ?_) rfl (by kernel_rfl) (fun _ _ _ h => h) (by rfl) ?_ hHeld ?_
              rotate_left 1
              · intro w' hSw; (try dsimp only at hSw); go_simp <;> with_reducible rfl
              try simp only [Act.put, List.setIfInBounds_toArray, List.set_cons_zero, List.set_cons_succ]
              refine stepH 8 (by kernel_rfl) rfl (fun K hK => ?_)
              go_simp
              refine (at_any ⟨A0, n0, c0, A1, n1, c1, some ⟨bz, oz, none⟩, n2, c2, A3, n3, c3, A4, n4, c4, A5, n5, c5⟩ x.nodes z.fr w.heap.size _ HS2.out.q1.drew HRN2.out hn63 hsa).mono ?_
              rintro e w' ⟨rfl, rfl⟩
              go_simp
              refine hK.out _ _ ?_ (fun hHeld => ?_)
              · exact hHeld
              clear hK K
              try simp only [Act.put, List.setIfInBounds_toArray, List.set_cons_zero, List.set_cons_succ]
              refine stepH 12 (by kernel_rfl) rfl (fun K hK => ?_)
              go_simp
              refine (at_any ⟨A0, n0, c0, A1, n1, c1, some ⟨bz, oz, none⟩, n2, c2, A3, n3, c3, A4, n4, c4, A5, n5, c5⟩ x.nodes z.to w.heap.size _ HS2.out.q1.drew HRN2.out hn63 hsb).mono ?_
              rintro e w' ⟨rfl, rfl⟩
              go_simp
              refine hK.out _ _ ?_ (fun hHeld => ?_)
              · exact hHeld
              clear hK K
              try simp only [Act.put, List.setIfInBounds_toArray, List.set_cons_zero, List.set_cons_succ]
              refine takeH 15 (v := ?_) rfl (by kernel_rfl) (fun _ _ _ h => h) (by rfl) ?_ hHeld ?_
              rotate_left 1
              · intro w' hSw; (try dsimp only at hSw); go_simp <;> with_reducible rfl
              try simp only [Act.put, List.setIfInBounds_toArray, List.set_cons_zero, List.set_cons_succ]
              refine stepH 16 (by kernel_rfl) rfl (fun K hK => ?_)
              go_simp
              refine hK.out _ _ ?_ (fun hHeld => ?_)
              · exact ⟨cell_al q0 (by omega), cell_al b0 (by omega), cell_al b1 (by omega), cell_al b2 (by omega)⟩
              clear hK K
              try simp only [Act.put, List.setIfInBounds_toArray, List.set_cons_zero, List.set_cons_succ]
              refine stepH 17 (by kernel_rfl) rfl (fun K hK => ?_)
              refine step_append_lies _ (by rfl) _ _ _ (by rfl) (bf + 1) 104 i0 _ 5 48 Try.underlying102 HI0.out HI1.out HI2.out HI3.out rfl (by omega) v _ _ (by rfl) ((HS2.out.own.alloc _).drew) ⟨W.heap.size, 0, none⟩ 1 1 (Ed.cells ⟨ndIdx x.nodes z.fr, ndIdx x.nodes z.to, z.name, false, 0⟩) (by rfl) (by rfl) (ed_news W ⟨ndIdx x.nodes z.fr, ndIdx x.nodes z.to, z.name, false, 0⟩ 104) (ed_one _) (by omega) (by have := HZL.out; simp only [maxLen]; omega) (by have := HZL.out; omega) (by simp; omega) (W.heap.size + 1) (by simp) ?_
              intro gg cap w1 hown1 hgrow hat hlt1
              refine hK.out _ _ ?_ (fun hHeld => ?_)
              · exact ⟨(hgrow.cell_far ⟨bf, 0, none⟩ (by simp; omega) (Ne.symm hv1)).trans (cell_al q0 (by omega)), (hgrow.cell_far ⟨zb, 0, none⟩ (by simp; omega) (Ne.symm hv2)).trans (cell_al b0 (by omega)), (hgrow.cell_far ⟨zb, 1, none⟩ (by simp; omega) (Ne.symm hv2)).trans (cell_al b1 (by omega)), (hgrow.cell_far ⟨zb, 2, none⟩ (by simp; omega) (Ne.symm hv2)).trans (cell_al b2 (by omega))⟩
              clear hK K
              try simp only [Act.put, List.setIfInBounds_toArray, List.set_cons_zero, List.set_cons_succ]
              refine takeH 18 (v := ?_) rfl (by kernel_rfl) (fun _ _ _ h => h) (by rfl) ?_ hHeld ?_
              rotate_left 1
              · intro w' hSw; (try dsimp only at hSw); go_simp <;> with_reducible rfl
              try simp only [Act.put, List.setIfInBounds_toArray, List.set_cons_zero, List.set_cons_succ]
              refine takeH 19 (v := ?_) rfl (by kernel_rfl) (fun _ _ _ h => h) (by rfl) ?_ hHeld ?_
              rotate_left 1
              · intro w' hSw; (try dsimp only at hSw); go_simp <;> with_reducible rfl
              try simp only [Act.put, List.setIfInBounds_toArray, List.set_cons_zero, List.set_cons_succ]
              refine wpAnyH_done (by kernel_rfl) ?_ _
              refine lastQ_go (by rfl) ?_
              have hf1 : w1.frozen? ⟨bf, 0, none⟩ = false := (hgrow.frozen_far ⟨bf, 0, none⟩ (by simp; omega) (Ne.symm hv1)).trans (frz_alloc q0f (by omega))
              have hbb : Below (bf + 1) W w1 := (below_drew ((Below.refl _ _).alloc hbase _)).grown hgrow (by simp; omega) (fun k hk => (HS2.out.own.lt k hk).1)
              have HS5 : Hid (FoS w bf ⟨A0, n0, c0, A1, n1, c1, some ⟨bz, oz, none⟩, n2, c2, A3, n3, c3, A4, n4, c4, A5, n5, c5⟩ p (w1.setCell ⟨bf, 0, none⟩ (.slice (some ⟨gg, 0, none⟩) (E0.length + 1) cap)) n0 ((x.brs.take k).foldl (plc1 x.nodes p) n0) (.slice (some ⟨gg, 0, none⟩) (E0.length + 1) cap) (x.sws.flatMap (swEd x.nodes opens) ++ (x.brs.take (k + 1)).flatMap (brEd x.nodes p))) := Lib.hid (HS2.out.app hbb (by
                rw [HZ.out, HE.out, ← List.append_assoc, HEE.out, List.length_append, List.flatMap_append]
                simpa using hown1))
              have hcc := hHeld
              have zz : ∀ i v, w1.cell? ⟨zb, i, none⟩ = some v → (w1.setCell ⟨bf, 0, none⟩ (.slice (some ⟨gg, 0, none⟩) (E0.length + 1) cap)).cell? ⟨zb, i, none⟩ = some v := fun i v h => by rw [World.cell?_setCell_other _ _ _ _ (fun e => hzb' (by injection e))]; exact h
              obtain ⟨hc1, hz0, hz1, hz2⟩ := hHeld
              have z0 := zz _ _ hz0
              have z1 := zz _ _ hz1
              have z2 := zz _ _ hz2
              clear hbb hgrow hat hown1 zz hcc
              go_simp
              clear hc1 hz0 hz1 hz2 hf1
              generalize (w1.setCell ⟨bf, 0, none⟩ (.slice (some ⟨gg, 0, none⟩) (E0.length + 1) cap)) = W5 at *
              generalize (Value.slice (some (⟨gg, 0, none⟩ : Addr)) (E0.length + 1) cap) = v5 at *
              have p0 := HS5.out.q3.cell 0
              have p1 := HS5.out.q3.cell 1
              have HRN5 := Lib.hid (HR.out.up HS5.out.low).r0
              go_wp2_with fail
              refine (at_any ⟨A0, n0, c0, A1, n1, c1, some ⟨bz, oz, none⟩, n2, c2, A3, n3, c3, A4, n4, c4, A5, n5, c5⟩ x.nodes z.fr w.heap.size _ HS5.out.q1 HRN5.out hn63 hsa).mono ?_
              rintro e w' ⟨rfl, rfl⟩
              have qc := HS5.out.qf.cell 1
              have qff := HS5.out.qf.frozen 1
              have HS6 := Lib.hid (HS5.out.plc (ndIdx x.nodes z.fr))
              have p0 : (W5.setCell ⟨bf, 1, none⟩ (.int .i64 (ndIdx x.nodes z.fr : Nat))).cell? ⟨w.heap.size + 1, 0, none⟩ = some (.string p.branch) := HS6.out.q3.cell 0
              have p1 : (W5.setCell ⟨bf, 1, none⟩ (.int .i64 (ndIdx x.nodes z.fr : Nat))).cell? ⟨w.heap.size + 1, 1, none⟩ = some (.int .i64 p.part) := HS6.out.q3.cell 1
              have z2 : (W5.setCell ⟨bf, 1, none⟩ (.int .i64 (ndIdx x.nodes z.fr : Nat))).cell? ⟨zb, 2, none⟩ = some (.string z.to) := by rw [World.cell?_setCell_other _ _ _ _ (fun e => hzb' (by injection e))]; exact z2
              go_wp2_with fail
              go_roundw
              case rel => exact ⟨k + 1, _, by omega, by go_num, by rw [HZP.out, HPV.out]; exact HS6.out⟩
              case measure => simp [intOf]; omega
            · by_cases h1 : p.part = 1000
              · have hmid : mid p = false := by unfold mid; rw [h1]; rfl
                have hpt : 0 < p.part := by omega
                have HE : Hid (brEd x.nodes p z = [⟨ndIdx x.nodes z.fr, ndIdx x.nodes z.to, z.name, false, 0⟩]) := Lib.hid (by unfold brEd; rw [hsm, hmid]; rfl)
                have HPV : Hid (plc1 x.nodes p ((x.brs.take k).foldl (plc1 x.nodes p) n0) z = ndIdx x.nodes z.to) := Lib.hid (by unfold plc1; rw [hsm, hmid]; simp [hpt])
                have ht0 : (p.part == 0) = false := by simpa using h0
                have ht1 : (p.part == 1000) = true := by simpa using h1
                clear hmid h0 h1
                have HBX : Hid (Blk (wr.alloc (.cells #[.string z.name, .string z.fr, .string z.to, .int .i64 z.x, .int .i64 z.tap, .int .i64 z.shift, .int .i64 z.limit, .int .i64 z.short, .int .i64 z.hold] 49)) wr.heap.size 49 #[.string z.name, .string z.fr, .string z.to, .int .i64 z.x, .int .i64 z.tap, .int .i64 z.shift, .int .i64 z.limit, .int .i64 z.short, .int .i64 z.hold]) := Lib.hid (Blk.new wr _ _)
                have HRN2 : Hid (RdStr (wr.alloc (.cells #[.string z.name, .string z.fr, .string z.to, .int .i64 z.x, .int .i64 z.tap, .int .i64 z.shift, .int .i64 z.limit, .int .i64 z.short, .int .i64 z.hold] 49)) (wr.alloc (.cells #[.string z.name, .string z.fr, .string z.to, .int .i64 z.x, .int .i64 z.tap, .int .i64 z.shift, .int .i64 z.limit, .int .i64 z.short, .int .i64 z.hold] 49)).heap.size A0 n0 x.nodes) := Lib.hid ((HRN.out.below HWB.out (Nat.le_refl _)).more HWB.out.size)
                go_wp2_with fail
                have hzw : wr.heap.size < (wr.alloc (.cells #[.string z.name, .string z.fr, .string z.to, .int .i64 z.x, .int .i64 z.tap, .int .i64 z.shift, .int .i64 z.limit, .int .i64 z.short, .int .i64 z.hold] 49)).heap.size := by simp
                have hv1 : v.ownBlock ≠ some bf := fun e => by have := (HS.out.own.lt _ e).1; omega
                have hv2 : v.ownBlock ≠ some wr.heap.size := fun e => by have := (HS.out.own.lt _ e).2; omega
                clear HWB HS HWR HRN y0 y1 y2 y3 y4 y5 nf nlt e0 e1 e2 e3 e4 e5 e6 e7 e8
                generalize wr.alloc (.cells #[.string z.name, .string z.fr, .string z.to, .int .i64 z.x, .int .i64 z.tap, .int .i64 z.shift, .int .i64 z.limit, .int .i64 z.short, .int .i64 z.hold] 49) = W at *
                generalize wr.heap.size = zb at *
                have q0 : W.cell? ⟨bf, 0, none⟩ = some v := HS2.out.qf.cell 0
                have q0f : W.frozen? ⟨bf, 0, none⟩ = false := HS2.out.qf.frozen 0
                have q1 : W.cell? ⟨bf, 1, none⟩ = some (.int .i64 ((((x.brs.take k).foldl (plc1 x.nodes p) n0) : Nat) : Int)) := HS2.out.qf.cell 1
                have b0 : W.cell? ⟨zb, 0, none⟩ = some (.string z.name) := HBX.out.cell 0
                have b1 : W.cell? ⟨zb, 1, none⟩ = some (.string z.fr) := HBX.out.cell 1
                have b2 : W.cell? ⟨zb, 2, none⟩ = some (.string z.to) := HBX.out.cell 2
                have hsa : z.fr ∈ x.nodes := HZS.out.1
                have hsb : z.to ∈ x.nodes := HZS.out.2.1
                have hn63 : n0 ≤ 9223372036854775807 := by omega
                generalize hE0 : x.sws.flatMap (swEd x.nodes opens) ++ (x.brs.take k).flatMap (brEd x.nodes p) = E0 at *
                have HEE := Lib.hid hE0
                clear hE0
                have hbase : bf + 1 ≤ W.heap.size := by omega
                have hzb : zb ≠ bf := by omega
                have hzb' : bf ≠ zb := by omega
                refine wp_region_last (S := fun w' => w'.cell? ⟨bf, 0, none⟩ = some v ∧ w'.cell? ⟨zb, 0, none⟩ = some (.string z.name) ∧ w'.cell? ⟨zb, 1, none⟩ = some (.string z.fr) ∧ w'.cell? ⟨zb, 2, none⟩ = some (.string z.to)) 20 _ (by kernel_rfl) (by kernel_rfl) rfl ⟨q0, b0, b1, b2⟩ (fun hHeld => ?_)
                simp only [List.take_succ_cons, List.take_zero]
                refine takeH 0 (v := ?_) rfl (by kernel_rfl) (fun _ _ _ h => h) (by rfl) ?_ hHeld ?_
                rotate_left 1
                · intro w' hSw; (try dsimp only at hSw); go_simp <;> with_reducible rfl
                try simp only [Act.put, List.setIfInBounds_toArray, List.set_cons_zero, List.set_cons_succ]
                refine takeH 1 (v := ?_) rfl (by kernel_rfl) (fun _ _ _ h => h) (by rfl) ?_ hHeld ?_
                rotate_left 1
                · intro w' hSw; (try dsimp only at hSw); go_simp <;> with_reducible rfl
                try simp only [Act.put, List.setIfInBounds_toArray, List.set_cons_zero, List.set_cons_succ]
                refine takeH 2 (v := ?_) rfl (by kernel_rfl) (fun _ _ _ h => h) (by rfl) ?_ hHeld ?_
                rotate_left 1
                · intro w' hSw; (try dsimp only at hSw); go_simp <;> with_reducible rfl
                try simp only [Act.put, List.setIfInBounds_toArray, List.set_cons_zero, List.set_cons_succ]
                refine takeH 3 (v := ?_) rfl (by kernel_rfl) (fun _ _ _ h => h) (by rfl) ?_ hHeld ?_
                rotate_left 1
                · intro w' hSw; (try dsimp only at hSw); go_simp <;> with_reducible rfl
                try simp only [Act.put, List.setIfInBounds_toArray, List.set_cons_zero, List.set_cons_succ]
                refine takeH 4 (v := ?_) rfl (by kernel_rfl) (fun _ _ _ h => h) (by rfl) ?_ hHeld ?_
                rotate_left 1
                · intro w' hSw; (try dsimp only at hSw); go_simp <;> with_reducible rfl
                try simp only [Act.put, List.setIfInBounds_toArray, List.set_cons_zero, List.set_cons_succ]
                refine takeH 5 (v := ?_) rfl (by kernel_rfl) (fun _ _ _ h => h) (by rfl) ?_ hHeld ?_
                rotate_left 1
                · intro w' hSw; (try dsimp only at hSw); go_simp <;> with_reducible rfl
                try simp only [Act.put, List.setIfInBounds_toArray, List.set_cons_zero, List.set_cons_succ]
                refine takeH 6 (v := ?_) rfl (by kernel_rfl) (fun _ _ _ h => h) (by rfl) ?_ hHeld ?_
                rotate_left 1
                · intro w' hSw; (try dsimp only at hSw); go_simp <;> with_reducible rfl
                try simp only [Act.put, List.setIfInBounds_toArray, List.set_cons_zero, List.set_cons_succ]
                refine takeH 7 (v := ?_) rfl (by kernel_rfl) (fun _ _ _ h => h) (by rfl) ?_ hHeld ?_
                rotate_left 1
                · intro w' hSw; (try dsimp only at hSw); go_simp <;> with_reducible rfl
                try simp only [Act.put, List.setIfInBounds_toArray, List.set_cons_zero, List.set_cons_succ]
                refine takeH 9 (v := ?_) rfl (by kernel_rfl) (fun _ _ _ h => h) (by rfl) ?_ hHeld ?_
                rotate_left 1
                · intro w' hSw; (try dsimp only at hSw); go_simp <;> with_reducible rfl
                try simp only [Act.put, List.setIfInBounds_toArray, List.set_cons_zero, List.set_cons_succ]
                refine takeH 10 (v := ?_) rfl (by kernel_rfl) (fun _ _ _ h => h) (by rfl) ?_ hHeld ?_
                rotate_left 1
                · intro w' hSw; (try dsimp only at hSw); go_simp <;> with_reducible rfl
                try simp only [Act.put, List.setIfInBounds_toArray, List.set_cons_zero, List.set_cons_succ]
                refine takeH 11 (v := ?_) rfl (by kernel_rfl) (fun _ _ _ h => h) (by rfl) ?_ hHeld ?_
                rotate_left 1
                · intro w' hSw; (try dsimp only at hSw); go_simp <;> with_reducible rfl
                try simp only [Act.put, List.setIfInBounds_toArray, List.set_cons_zero, List.set_cons_succ]
                refine takeH 13 (v := ?_) rfl (by kernel_rfl) (fun _ _ _ h => h) (by rfl) ?_ hHeld ?_
                rotate_left 1
                · intro w' hSw; (try dsimp only at hSw); go_simp <;> with_reducible rfl
                try simp only [Act.put, List.setIfInBounds_toArray, List.set_cons_zero, List.set_cons_succ]
                refine takeH 14 (v := ?_) rfl (by kernel_rfl) (fun _ _ _ h => h) (by rfl) ?_ hHeld ?_
                rotate_left 1
                · intro w' hSw; (try dsimp only at hSw); go_simp <;> with_reducible rfl
                try simp only [Act.put, List.setIfInBounds_toArray, List.set_cons_zero, List.set_cons_succ]
                refine stepH 8 (by kernel_rfl) rfl (fun K hK => ?_)
                go_simp
                refine (at_any ⟨A0, n0, c0, A1, n1, c1, some ⟨bz, oz, none⟩, n2, c2, A3, n3, c3, A4, n4, c4, A5, n5, c5⟩ x.nodes z.fr w.heap.size _ HS2.out.q1.drew HRN2.out hn63 hsa).mono ?_
                rintro e w' ⟨rfl, rfl⟩
                go_simp
                refine hK.out _ _ ?_ (fun hHeld => ?_)
                · exact hHeld
                clear hK K
                try simp only [Act.put, List.setIfInBounds_toArray, List.set_cons_zero, List.set_cons_succ]
                refine stepH 12 (by kernel_rfl) rfl (fun K hK => ?_)
                go_simp
                refine (at_any ⟨A0, n0, c0, A1, n1, c1, some ⟨bz, oz, none⟩, n2, c2, A3, n3, c3, A4, n4, c4, A5, n5, c5⟩ x.nodes z.to w.heap.size _ HS2.out.q1.drew HRN2.out hn63 hsb).mono ?_
                rintro e w' ⟨rfl, rfl⟩
                go_simp
                refine hK.out _ _ ?_ (fun hHeld => ?_)
                · exact hHeld
                clear hK K
                try simp only [Act.put, List.setIfInBounds_toArray, List.set_cons_zero, List.set_cons_succ]
                refine takeH 15 (v := ?_) rfl (by kernel_rfl) (fun _ _ _ h => h) (by rfl) ?_ hHeld ?_
                rotate_left 1
                · intro w' hSw; (try dsimp only at hSw); go_simp <;> with_reducible rfl
                try simp only [Act.put, List.setIfInBounds_toArray, List.set_cons_zero, List.set_cons_succ]
                refine stepH 16 (by kernel_rfl) rfl (fun K hK => ?_)
                go_simp
                refine hK.out _ _ ?_ (fun hHeld => ?_)
                · exact ⟨cell_al q0 (by omega), cell_al b0 (by omega), cell_al b1 (by omega), cell_al b2 (by omega)⟩
                clear hK K
                try simp only [Act.put, List.setIfInBounds_toArray, List.set_cons_zero, List.set_cons_succ]
                refine stepH 17 (by kernel_rfl) rfl (fun K hK => ?_)
                refine step_append_lies _ (by rfl) _ _ _ (by rfl) (bf + 1) 104 i0 _ 5 48 Try.underlying102 HI0.out HI1.out HI2.out HI3.out rfl (by omega) v _ _ (by rfl) ((HS2.out.own.alloc _).drew) ⟨W.heap.size, 0, none⟩ 1 1 (Ed.cells ⟨ndIdx x.nodes z.fr, ndIdx x.nodes z.to, z.name, false, 0⟩) (by rfl) (by rfl) (ed_news W ⟨ndIdx x.nodes z.fr, ndIdx x.nodes z.to, z.name, false, 0⟩ 104) (ed_one _) (by omega) (by have := HZL.out; simp only [maxLen]; omega) (by have := HZL.out; omega) (by simp; omega) (W.heap.size + 1) (by simp) ?_
                intro gg cap w1 hown1 hgrow hat hlt1
                refine hK.out _ _ ?_ (fun hHeld => ?_)
                · exact ⟨(hgrow.cell_far ⟨bf, 0, none⟩ (by simp; omega) (Ne.symm hv1)).trans (cell_al q0 (by omega)), (hgrow.cell_far ⟨zb, 0, none⟩ (by simp; omega) (Ne.symm hv2)).trans (cell_al b0 (by omega)), (hgrow.cell_far ⟨zb, 1, none⟩ (by simp; omega) (Ne.symm hv2)).trans (cell_al b1 (by omega)), (hgrow.cell_far ⟨zb, 2, none⟩ (by simp; omega) (Ne.symm hv2)).trans (cell_al b2 (by omega))⟩
                clear hK K
                try simp only [Act.put, List.setIfInBounds_toArray, List.set_cons_zero, List.set_cons_succ]
                refine takeH 18 (v := ?_) rfl (by kernel_rfl) (fun _ _ _ h => h) (by rfl) ?_ hHeld ?_
                rotate_left 1
                · intro w' hSw; (try dsimp only at hSw); go_simp <;> with_reducible rfl
                try simp only [Act.put, List.setIfInBounds_toArray, List.set_cons_zero, List.set_cons_succ]
                refine takeH 19 (v := ?_) rfl (by kernel_rfl) (fun _ _ _ h => h) (by rfl) ?_ hHeld ?_
                rotate_left 1
                · intro w' hSw; (try dsimp only at hSw); go_simp <;> with_reducible rfl
                try simp only [Act.put, List.setIfInBounds_toArray, List.set_cons_zero, List.set_cons_succ]
                refine wpAnyH_done (by kernel_rfl) ?_ _
                refine lastQ_go (by rfl) ?_
                have hf1 : w1.frozen? ⟨bf, 0, none⟩ = false := (hgrow.frozen_far ⟨bf, 0, none⟩ (by simp; omega) (Ne.symm hv1)).trans (frz_alloc q0f (by omega))
                have hbb : Below (bf + 1) W w1 := (below_drew ((Below.refl _ _).alloc hbase _)).grown hgrow (by simp; omega) (fun k hk => (HS2.out.own.lt k hk).1)
                have HS5 : Hid (FoS w bf ⟨A0, n0, c0, A1, n1, c1, some ⟨bz, oz, none⟩, n2, c2, A3, n3, c3, A4, n4, c4, A5, n5, c5⟩ p (w1.setCell ⟨bf, 0, none⟩ (.slice (some ⟨gg, 0, none⟩) (E0.length + 1) cap)) n0 ((x.brs.take k).foldl (plc1 x.nodes p) n0) (.slice (some ⟨gg, 0, none⟩) (E0.length + 1) cap) (x.sws.flatMap (swEd x.nodes opens) ++ (x.brs.take (k + 1)).flatMap (brEd x.nodes p))) := Lib.hid (HS2.out.app hbb (by
                  rw [HZ.out, HE.out, ← List.append_assoc, HEE.out, List.length_append, List.flatMap_append]
                  simpa using hown1))
                have hcc := hHeld
                have zz : ∀ i v, w1.cell? ⟨zb, i, none⟩ = some v → (w1.setCell ⟨bf, 0, none⟩ (.slice (some ⟨gg, 0, none⟩) (E0.length + 1) cap)).cell? ⟨zb, i, none⟩ = some v := fun i v h => by rw [World.cell?_setCell_other _ _ _ _ (fun e => hzb' (by injection e))]; exact h
                obtain ⟨hc1, hz0, hz1, hz2⟩ := hHeld
                have z0 := zz _ _ hz0
                have z1 := zz _ _ hz1
                have z2 := zz _ _ hz2
                clear hbb hgrow hat hown1 zz hcc
                go_simp
                clear hc1 hz0 hz1 hz2 hf1
                generalize (w1.setCell ⟨bf, 0, none⟩ (.slice (some ⟨gg, 0, none⟩) (E0.length + 1) cap)) = W5 at *
                generalize (Value.slice (some (⟨gg, 0, none⟩ : Addr)) (E0.length + 1) cap) = v5 at *
                have p0 := HS5.out.q3.cell 0
                have p1 := HS5.out.q3.cell 1
                have HRN5 := Lib.hid (HR.out.up HS5.out.low).r0
                go_wp2_with fail
                refine (at_any ⟨A0, n0, c0, A1, n1, c1, some ⟨bz, oz, none⟩, n2, c2, A3, n3, c3, A4, n4, c4, A5, n5, c5⟩ x.nodes z.fr w.heap.size _ HS5.out.q1 HRN5.out hn63 hsa).mono ?_
                rintro e w' ⟨rfl, rfl⟩
                have qc := HS5.out.qf.cell 1
                have qff := HS5.out.qf.frozen 1
                have HS6 := Lib.hid (HS5.out.plc (ndIdx x.nodes z.fr))
                have p0 : (W5.setCell ⟨bf, 1, none⟩ (.int .i64 (ndIdx x.nodes z.fr : Nat))).cell? ⟨w.heap.size + 1, 0, none⟩ = some (.string p.branch) := HS6.out.q3.cell 0
                have p1 : (W5.setCell ⟨bf, 1, none⟩ (.int .i64 (ndIdx x.nodes z.fr : Nat))).cell? ⟨w.heap.size + 1, 1, none⟩ = some (.int .i64 p.part) := HS6.out.q3.cell 1
                have z2 : (W5.setCell ⟨bf, 1, none⟩ (.int .i64 (ndIdx x.nodes z.fr : Nat))).cell? ⟨zb, 2, none⟩ = some (.string z.to) := by rw [World.cell?_setCell_other _ _ _ _ (fun e => hzb' (by injection e))]; exact z2
                go_wp2_with fail
                have HRN5 := Lib.hid (HR.out.up HS6.out.low).r0
                generalize W5.setCell ⟨bf, 1, none⟩ (.int .i64 (ndIdx x.nodes z.fr : Nat)) = W6 at *
                refine (at_any ⟨A0, n0, c0, A1, n1, c1, some ⟨bz, oz, none⟩, n2, c2, A3, n3, c3, A4, n4, c4, A5, n5, c5⟩ x.nodes z.to w.heap.size _ HS6.out.q1 HRN5.out hn63 hsb).mono ?_
                rintro e w' ⟨rfl, rfl⟩
                have qc := HS6.out.qf.cell 1
                have qff := HS6.out.qf.frozen 1
                have HS7 := Lib.hid (HS6.out.plc (ndIdx x.nodes z.to))
                go_wp2_with fail
                go_roundw
                case rel => exact ⟨k + 1, _, by omega, by go_num, by rw [HZP.out, HPV.out]; exact HS7.out⟩
                case measure => simp [intOf]; omega
              · have hmid : mid p = true := by unfold mid; simp [h0, h1]
                have hpl : (x.brs.take k).foldl (plc1 x.nodes p) n0 = n0 := plc_mid hmid _ _
                have HPN : Hid ((x.brs.take (k + 1)).foldl (plc1 x.nodes p) n0 = n0) := Lib.hid (plc_mid hmid _ _)
                rw [hpl] at HS HS2
                have HE : Hid (brEd x.nodes p z = [⟨n0, ndIdx x.nodes z.fr, z.name, false, 0⟩, ⟨n0, ndIdx x.nodes z.to, z.name, false, 0⟩]) := Lib.hid (by unfold brEd; rw [hsm, hmid, HN0.out]; rfl)
                have ht0 : (p.part == 0) = false := by simpa using h0
                have ht1 : (p.part == 1000) = false := by simpa using h1
                clear hmid h0 h1 hpl
                have HBX : Hid (Blk (wr.alloc (.cells #[.string z.name, .string z.fr, .string z.to, .int .i64 z.x, .int .i64 z.tap, .int .i64 z.shift, .int .i64 z.limit, .int .i64 z.short, .int .i64 z.hold] 49)) wr.heap.size 49 #[.string z.name, .string z.fr, .string z.to, .int .i64 z.x, .int .i64 z.tap, .int .i64 z.shift, .int .i64 z.limit, .int .i64 z.short, .int .i64 z.hold]) := Lib.hid (Blk.new wr _ _)
                have HRN2 : Hid (RdStr (wr.alloc (.cells #[.string z.name, .string z.fr, .string z.to, .int .i64 z.x, .int .i64 z.tap, .int .i64 z.shift, .int .i64 z.limit, .int .i64 z.short, .int .i64 z.hold] 49)) (wr.alloc (.cells #[.string z.name, .string z.fr, .string z.to, .int .i64 z.x, .int .i64 z.tap, .int .i64 z.shift, .int .i64 z.limit, .int .i64 z.short, .int .i64 z.hold] 49)).heap.size A0 n0 x.nodes) := Lib.hid ((HRN.out.below HWB.out (Nat.le_refl _)).more HWB.out.size)
                go_wp2_with fail
                have hzw : wr.heap.size < (wr.alloc (.cells #[.string z.name, .string z.fr, .string z.to, .int .i64 z.x, .int .i64 z.tap, .int .i64 z.shift, .int .i64 z.limit, .int .i64 z.short, .int .i64 z.hold] 49)).heap.size := by simp
                have hv1 : v.ownBlock ≠ some bf := fun e => by have := (HS.out.own.lt _ e).1; omega
                have hv2 : v.ownBlock ≠ some wr.heap.size := fun e => by have := (HS.out.own.lt _ e).2; omega
                clear HWB HS HWR HRN y0 y1 y2 y3 y4 y5 nf nlt e0 e1 e2 e3 e4 e5 e6 e7 e8
                generalize wr.alloc (.cells #[.string z.name, .string z.fr, .string z.to, .int .i64 z.x, .int .i64 z.tap, .int .i64 z.shift, .int .i64 z.limit, .int .i64 z.short, .int .i64 z.hold] 49) = W at *
                generalize wr.heap.size = zb at *
                have q0 : W.cell? ⟨bf, 0, none⟩ = some v := HS2.out.qf.cell 0
                have q0f : W.frozen? ⟨bf, 0, none⟩ = false := HS2.out.qf.frozen 0
                have q1 : W.cell? ⟨bf, 1, none⟩ = some (.int .i64 (n0 : Nat)) := HS2.out.qf.cell 1
                have b0 : W.cell? ⟨zb, 0, none⟩ = some (.string z.name) := HBX.out.cell 0
                have b1 : W.cell? ⟨zb, 1, none⟩ = some (.string z.fr) := HBX.out.cell 1
                have b2 : W.cell? ⟨zb, 2, none⟩ = some (.string z.to) := HBX.out.cell 2
                have hsa : z.fr ∈ x.nodes := HZS.out.1
                have hsb : z.to ∈ x.nodes := HZS.out.2.1
                have hn63 : n0 ≤ 9223372036854775807 := by omega
                generalize hE0 : x.sws.flatMap (swEd x.nodes opens) ++ (x.brs.take k).flatMap (brEd x.nodes p) = E0 at *
                have HEE := Lib.hid hE0
                clear hE0
                have hbase : bf + 1 ≤ W.heap.size := by omega
                have hzb : zb ≠ bf := by omega
                have hzb' : bf ≠ zb := by omega
                refine wp_region_last (S := fun w' => w'.cell? ⟨bf, 0, none⟩ = some v ∧ w'.cell? ⟨bf, 1, none⟩ = some (.int .i64 (n0 : Nat)) ∧ w'.cell? ⟨zb, 0, none⟩ = some (.string z.name) ∧ w'.cell? ⟨zb, 1, none⟩ = some (.string z.fr) ∧ w'.cell? ⟨zb, 2, none⟩ = some (.string z.to)) 31 _ (by kernel_rfl) (by kernel_rfl) rfl ⟨q0, q1, b0, b1, b2⟩ (fun hHeld => ?_)
                simp only [List.take_succ_cons, List.take_zero]
                refine takeH 0 (v := ?_) rfl (by kernel_rfl) (fun _ _ _ h => h) (by rfl) ?_ hHeld ?_
                rotate_left 1
                · intro w' hSw; (try dsimp only at hSw); go_simp <;> with_reducible rfl
                try simp only [Act.put, List.setIfInBounds_toArray, List.set_cons_zero, List.set_cons_succ]
                refine takeH 1 (v := ?_) rfl (by kernel_rfl) (fun _ _ _ h => h) (by rfl) ?_ hHeld ?_
                rotate_left 1
                · intro w' hSw; (try dsimp only at hSw); go_simp <;> with_reducible rfl
                try simp only [Act.put, List.setIfInBounds_toArray, List.set_cons_zero, List.set_cons_succ]
                refine takeH 2 (v := ?_) rfl (by kernel_rfl) (fun _ _ _ h => h) (by rfl) ?_ hHeld ?_
                rotate_left 1
                · intro w' hSw; (try dsimp only at hSw); go_simp <;> with_reducible rfl
                try simp only [Act.put, List.setIfInBounds_toArray, List.set_cons_zero, List.set_cons_succ]
                refine takeH 3 (v := ?_) rfl (by kernel_rfl) (fun _ _ _ h => h) (by rfl) ?_ hHeld ?_
                rotate_left 1
                · intro w' hSw; (try dsimp only at hSw); go_simp <;> with_reducible rfl
                try simp only [Act.put, List.setIfInBounds_toArray, List.set_cons_zero, List.set_cons_succ]
                refine takeH 4 (v := ?_) rfl (by kernel_rfl) (fun _ _ _ h => h) (by rfl) ?_ hHeld ?_
                rotate_left 1
                · intro w' hSw; (try dsimp only at hSw); go_simp <;> with_reducible rfl
                try simp only [Act.put, List.setIfInBounds_toArray, List.set_cons_zero, List.set_cons_succ]
                refine takeH 5 (v := ?_) rfl (by kernel_rfl) (fun _ _ _ h => h) (by rfl) ?_ hHeld ?_
                rotate_left 1
                · intro w' hSw; (try dsimp only at hSw); go_simp <;> with_reducible rfl
                try simp only [Act.put, List.setIfInBounds_toArray, List.set_cons_zero, List.set_cons_succ]
                refine takeH 6 (v := ?_) rfl (by kernel_rfl) (fun _ _ _ h => h) (by rfl) ?_ hHeld ?_
                rotate_left 1
                · intro w' hSw; (try dsimp only at hSw); go_simp <;> with_reducible rfl
                try simp only [Act.put, List.setIfInBounds_toArray, List.set_cons_zero, List.set_cons_succ]
                refine takeH 7 (v := ?_) rfl (by kernel_rfl) (fun _ _ _ h => h) (by rfl) ?_ hHeld ?_
                rotate_left 1
                · intro w' hSw; (try dsimp only at hSw); go_simp <;> with_reducible rfl
                try simp only [Act.put, List.setIfInBounds_toArray, List.set_cons_zero, List.set_cons_succ]
                refine takeH 8 (v := ?_) rfl (by kernel_rfl) (fun _ _ _ h => h) (by rfl) ?_ hHeld ?_
                rotate_left 1
                · intro w' hSw; (try dsimp only at hSw); go_simp <;> with_reducible rfl
                try simp only [Act.put, List.setIfInBounds_toArray, List.set_cons_zero, List.set_cons_succ]
                refine takeH 9 (v := ?_) rfl (by kernel_rfl) (fun _ _ _ h => h) (by rfl) ?_ hHeld ?_
                rotate_left 1
                · intro w' hSw; (try dsimp only at hSw); go_simp <;> with_reducible rfl
                try simp only [Act.put, List.setIfInBounds_toArray, List.set_cons_zero, List.set_cons_succ]
                refine takeH 10 (v := ?_) rfl (by kernel_rfl) (fun _ _ _ h => h) (by rfl) ?_ hHeld ?_
                rotate_left 1
                · intro w' hSw; (try dsimp only at hSw); go_simp <;> with_reducible rfl
                try simp only [Act.put, List.setIfInBounds_toArray, List.set_cons_zero, List.set_cons_succ]
                refine takeH 11 (v := ?_) rfl (by kernel_rfl) (fun _ _ _ h => h) (by rfl) ?_ hHeld ?_
                rotate_left 1
                · intro w' hSw; (try dsimp only at hSw); go_simp <;> with_reducible rfl
                try simp only [Act.put, List.setIfInBounds_toArray, List.set_cons_zero, List.set_cons_succ]
                refine takeH 13 (v := ?_) rfl (by kernel_rfl) (fun _ _ _ h => h) (by rfl) ?_ hHeld ?_
                rotate_left 1
                · intro w' hSw; (try dsimp only at hSw); go_simp <;> with_reducible rfl
                try simp only [Act.put, List.setIfInBounds_toArray, List.set_cons_zero, List.set_cons_succ]
                refine takeH 14 (v := ?_) rfl (by kernel_rfl) (fun _ _ _ h => h) (by rfl) ?_ hHeld ?_
                rotate_left 1
                · intro w' hSw; (try dsimp only at hSw); go_simp <;> with_reducible rfl
                try simp only [Act.put, List.setIfInBounds_toArray, List.set_cons_zero, List.set_cons_succ]
                refine takeH 16 (v := ?_) rfl (by kernel_rfl) (fun _ _ _ h => h) (by rfl) ?_ hHeld ?_
                rotate_left 1
                · intro w' hSw; (try dsimp only at hSw); go_simp <;> with_reducible rfl
                try simp only [Act.put, List.setIfInBounds_toArray, List.set_cons_zero, List.set_cons_succ]
                refine takeH 17 (v := ?_) rfl (by kernel_rfl) (fun _ _ _ h => h) (by rfl) ?_ hHeld ?_
                rotate_left 1
                · intro w' hSw; (try dsimp only at hSw); go_simp <;> with_reducible rfl
                try simp only [Act.put, List.setIfInBounds_toArray, List.set_cons_zero, List.set_cons_succ]
                refine takeH 18 (v := ?_) rfl (by kernel_rfl) (fun _ _ _ h => h) (by rfl) ?_ hHeld ?_
                rotate_left 1
                · intro w' hSw; (try dsimp only at hSw); go_simp <;> with_reducible rfl
                try simp only [Act.put, List.setIfInBounds_toArray, List.set_cons_zero, List.set_cons_succ]
                refine takeH 19 (v := ?_) rfl (by kernel_rfl) (fun _ _ _ h => h) (by rfl) ?_ hHeld ?_
                rotate_left 1
                · intro w' hSw; (try dsimp only at hSw); go_simp <;> with_reducible rfl
                try simp only [Act.put, List.setIfInBounds_toArray, List.set_cons_zero, List.set_cons_succ]
                refine takeH 20 (v := ?_) rfl (by kernel_rfl) (fun _ _ _ h => h) (by rfl) ?_ hHeld ?_
                rotate_left 1
                · intro w' hSw; (try dsimp only at hSw); go_simp <;> with_reducible rfl
                try simp only [Act.put, List.setIfInBounds_toArray, List.set_cons_zero, List.set_cons_succ]
                refine takeH 21 (v := ?_) rfl (by kernel_rfl) (fun _ _ _ h => h) (by rfl) ?_ hHeld ?_
                rotate_left 1
                · intro w' hSw; (try dsimp only at hSw); go_simp <;> with_reducible rfl
                try simp only [Act.put, List.setIfInBounds_toArray, List.set_cons_zero, List.set_cons_succ]
                refine takeH 22 (v := ?_) rfl (by kernel_rfl) (fun _ _ _ h => h) (by rfl) ?_ hHeld ?_
                rotate_left 1
                · intro w' hSw; (try dsimp only at hSw); go_simp <;> with_reducible rfl
                try simp only [Act.put, List.setIfInBounds_toArray, List.set_cons_zero, List.set_cons_succ]
                refine takeH 24 (v := ?_) rfl (by kernel_rfl) (fun _ _ _ h => h) (by rfl) ?_ hHeld ?_
                rotate_left 1
                · intro w' hSw; (try dsimp only at hSw); go_simp <;> with_reducible rfl
                try simp only [Act.put, List.setIfInBounds_toArray, List.set_cons_zero, List.set_cons_succ]
                refine takeH 25 (v := ?_) rfl (by kernel_rfl) (fun _ _ _ h => h) (by rfl) ?_ hHeld ?_
                rotate_left 1
                · intro w' hSw; (try dsimp only at hSw); go_simp <;> with_reducible rfl
                try simp only [Act.put, List.setIfInBounds_toArray, List.set_cons_zero, List.set_cons_succ]
                refine stepH 12 (by kernel_rfl) rfl (fun K hK => ?_)
                go_simp
                refine (at_any ⟨A0, n0, c0, A1, n1, c1, some ⟨bz, oz, none⟩, n2, c2, A3, n3, c3, A4, n4, c4, A5, n5, c5⟩ x.nodes z.fr w.heap.size _ HS2.out.q1.drew HRN2.out hn63 hsa).mono ?_
                rintro e w' ⟨rfl, rfl⟩
                go_simp
                refine hK.out _ _ ?_ (fun hHeld => ?_)
                · exact hHeld
                clear hK K
                try simp only [Act.put, List.setIfInBounds_toArray, List.set_cons_zero, List.set_cons_succ]
                refine takeH 15 (v := ?_) rfl (by kernel_rfl) (fun _ _ _ h => h) (by rfl) ?_ hHeld ?_
                rotate_left 1
                · intro w' hSw; (try dsimp only at hSw); go_simp <;> with_reducible rfl
                try simp only [Act.put, List.setIfInBounds_toArray, List.set_cons_zero, List.set_cons_succ]
                refine stepH 23 (by kernel_rfl) rfl (fun K hK => ?_)
                go_simp
                refine (at_any ⟨A0, n0, c0, A1, n1, c1, some ⟨bz, oz, none⟩, n2, c2, A3, n3, c3, A4, n4, c4, A5, n5, c5⟩ x.nodes z.to w.heap.size _ HS2.out.q1.drew HRN2.out hn63 hsb).mono ?_
                rintro e w' ⟨rfl, rfl⟩
                go_simp
                refine hK.out _ _ ?_ (fun hHeld => ?_)
                · exact hHeld
                clear hK K
                try simp only [Act.put, List.setIfInBounds_toArray, List.set_cons_zero, List.set_cons_succ]
                refine takeH 26 (v := ?_) rfl (by kernel_rfl) (fun _ _ _ h => h) (by rfl) ?_ hHeld ?_
                rotate_left 1
                · intro w' hSw; (try dsimp only at hSw); go_simp <;> with_reducible rfl
                try simp only [Act.put, List.setIfInBounds_toArray, List.set_cons_zero, List.set_cons_succ]
                refine stepH 27 (by kernel_rfl) rfl (fun K hK => ?_)
                go_simp
                refine hK.out _ _ ?_ (fun hHeld => ?_)
                · exact ⟨cell_al q0 (by omega), cell_al q1 (by omega), cell_al b0 (by omega), cell_al b1 (by omega), cell_al b2 (by omega)⟩
                clear hK K
                try simp only [Act.put, List.setIfInBounds_toArray, List.set_cons_zero, List.set_cons_succ]
                refine stepH 28 (by kernel_rfl) rfl (fun K hK => ?_)
                refine step_append_lies _ (by rfl) _ _ _ (by rfl) (bf + 1) 104 i0 _ 5 48 Try.underlying102 HI0.out HI1.out HI2.out HI3.out rfl (by omega) v _ _ (by rfl) ((HS2.out.own.alloc _).drew) ⟨W.heap.size, 0, none⟩ 2 2 (Ed.cells ⟨n0, ndIdx x.nodes z.fr, z.name, false, 0⟩ ++ Ed.cells ⟨n0, ndIdx x.nodes z.to, z.name, false, 0⟩) (by rfl) (by rfl) (ed_news2 W ⟨n0, ndIdx x.nodes z.fr, z.name, false, 0⟩ ⟨n0, ndIdx x.nodes z.to, z.name, false, 0⟩ 104) (ed_one2 _ _) (by omega) (by have := HZL.out; simp only [maxLen]; omega) (by have := HZL.out; omega) (by simp; omega) (W.heap.size + 1) (by simp) ?_
                intro gg cap w1 hown1 hgrow hat hlt1
                refine hK.out _ _ ?_ (fun hHeld => ?_)
                · exact ⟨(hgrow.cell_far ⟨bf, 0, none⟩ (by simp; omega) (Ne.symm hv1)).trans (cell_al q0 (by omega)), (hgrow.cell_far ⟨bf, 1, none⟩ (by simp; omega) (Ne.symm hv1)).trans (cell_al q1 (by omega)), (hgrow.cell_far ⟨zb, 0, none⟩ (by simp; omega) (Ne.symm hv2)).trans (cell_al b0 (by omega)), (hgrow.cell_far ⟨zb, 1, none⟩ (by simp; omega) (Ne.symm hv2)).trans (cell_al b1 (by omega)), (hgrow.cell_far ⟨zb, 2, none⟩ (by simp; omega) (Ne.symm hv2)).trans (cell_al b2 (by omega))⟩
                clear hK K
                try simp only [Act.put, List.setIfInBounds_toArray, List.set_cons_zero, List.set_cons_succ]
                refine takeH 29 (v := ?_) rfl (by kernel_rfl) (fun _ _ _ h => h) (by rfl) ?_ hHeld ?_
                rotate_left 1
                · intro w' hSw; (try dsimp only at hSw); go_simp <;> with_reducible rfl
                try simp only [Act.put, List.setIfInBounds_toArray, List.set_cons_zero, List.set_cons_succ]
                refine takeH 30 (v := ?_) rfl (by kernel_rfl) (fun _ _ _ h => h) (by rfl) ?_ hHeld ?_
                rotate_left 1
                · intro w' hSw; (try dsimp only at hSw); go_simp <;> with_reducible rfl
                try simp only [Act.put, List.setIfInBounds_toArray, List.set_cons_zero, List.set_cons_succ]
                refine wpAnyH_done (by kernel_rfl) ?_ _
                refine lastQ_go (by rfl) ?_
                have hf1 : w1.frozen? ⟨bf, 0, none⟩ = false := (hgrow.frozen_far ⟨bf, 0, none⟩ (by simp; omega) (Ne.symm hv1)).trans (frz_alloc q0f (by omega))
                have hbb : Below (bf + 1) W w1 := (below_drew ((Below.refl _ _).alloc hbase _)).grown hgrow (by simp; omega) (fun k hk => (HS2.out.own.lt k hk).1)
                have HS5 : Hid (FoS w bf ⟨A0, n0, c0, A1, n1, c1, some ⟨bz, oz, none⟩, n2, c2, A3, n3, c3, A4, n4, c4, A5, n5, c5⟩ p (w1.setCell ⟨bf, 0, none⟩ (.slice (some ⟨gg, 0, none⟩) (E0.length + 2) cap)) n0 n0 (.slice (some ⟨gg, 0, none⟩) (E0.length + 2) cap) (x.sws.flatMap (swEd x.nodes opens) ++ (x.brs.take (k + 1)).flatMap (brEd x.nodes p))) := Lib.hid (HS2.out.app hbb (by
                  rw [HZ.out, HE.out, ← List.append_assoc, HEE.out, List.length_append, List.flatMap_append]
                  simpa using hown1))
                have hcc := hHeld
                have zz : ∀ i v, w1.cell? ⟨zb, i, none⟩ = some v → (w1.setCell ⟨bf, 0, none⟩ (.slice (some ⟨gg, 0, none⟩) (E0.length + 2) cap)).cell? ⟨zb, i, none⟩ = some v := fun i v h => by rw [World.cell?_setCell_other _ _ _ _ (fun e => hzb' (by injection e))]; exact h
                obtain ⟨hc1, hcp, hz0, hz1, hz2⟩ := hHeld
                have z0 := zz _ _ hz0
                have z1 := zz _ _ hz1
                have z2 := zz _ _ hz2
                clear hbb hgrow hat hown1 zz hcc
                go_simp
                clear hc1 hz0 hz1 hz2 hcp hf1
                generalize (w1.setCell ⟨bf, 0, none⟩ (.slice (some ⟨gg, 0, none⟩) (E0.length + 2) cap)) = W5 at *
                generalize (Value.slice (some (⟨gg, 0, none⟩ : Addr)) (E0.length + 2) cap) = v5 at *
                go_wp2_with fail
                go_roundw
                case rel => exact ⟨k + 1, _, by omega, by go_num, by rw [HPN.out]; exact HS5.out⟩
                case measure => simp [intOf]; omega
        · have hkk : n2 = k := by omega
          subst hkk
          have HSA : Hid (FoS w bf ⟨A0, n0, c0, A1, n1, c1, A2, n2, c2, A3, n3, c3, A4, n4, c4, A5, n5, c5⟩ p wr n0 (fdPl x p) v (fdEs x opens p)) := Lib.hid (by
            have h := HS.out
            rw [List.take_of_length_le (show x.brs.length ≤ n2 by have := HN2.out; omega), ← HN0.out] at h
            unfold fdPl fdEs; rw [← HN0.out]; exact h)
          have HSC := Lib.hid HSA.out.qf
          have HT0 := Lib.hid HSA.out.made
          have kc3 := HSA.out.qf.cell 3
          have kc2 := HSA.out.qf.cell 2
          have kcf := HSA.out.qf.frozen 2
          have hmk : ∀ w : World, (Instr.makeSlice 105 (.int .i64 ((n0 : Int) + 1)) (.int .i64 ((n0 : Int) + 1))).run Try.prog w = .ok (.slice (some ⟨w.heap.size, 0, none⟩) (n0 + 1) (n0 + 1)) (w.alloc (.cells (madeCells #[.bool false] (n0 + 1)) 4)) :=
            fun w => run_make_row' (P := Try.prog) 105 4 (.bool false) 1 Try.underlying105 info_bool rfl .i64 .i64 (n0 + 1) (by omega) (by omega) w
          have hblt := HSA.out.sz
          clear HS HWR p0 p1 HSA HSC
          have HT1 := Lib.hid HT0.out.q1
          obtain ⟨y0, y1, y2, y3, y4, y5, nf, nlt⟩ := net_box HT1.out
          go_wp2_with fail
          generalize hg : wr.heap.size = g at *
          have HG := Lib.hid hg
          clear hg HT1 hmk
          go_loopw [175] (fun i wr => ∃ (k : Nat), k ≤ n3 ∧ i = .int .i64 k ∧ FoT w bf g ⟨A0, n0, c0, A1, n1, c1, A2, n2, c2, A3, n3, c3, A4, n4, c4, A5, n5, c5⟩ wr n0 (fdPl x p) v (fdEs x opens p) ((x.gns.take k).foldl (fun l g => l.set (ndIdx x.nodes g.node) true) (List.replicate (n0 + 1) false))) (fun i _ => n3 - (intOf i).toNat)
          case atStart => exact ⟨0, by omega, rfl, HT0.out⟩
          case round =>
            obtain ⟨k, hk, rfl, hs⟩ := hrel
            have HT := Lib.hid hs
            obtain ⟨y0, y1, y2, y3, y4, y5, nf, nlt⟩ := net_box hs.q1
            have hsz := hs.sz
            have hbe := hs.bfe
            have hgs := hs.gs
            clear hs
            have HWR := Lib.hid (Below.refl wr.heap.size wr)
            by_cases hlt : k < n3
            · obtain ⟨z, hz⟩ : ∃ z, x.gns[k]? = some z := ⟨_, List.getElem?_eq_getElem (by have := HN3.out; omega)⟩
              have hrw := HR.out.up HT.out.low
              obtain ⟨bz, oz, hA, hbz⟩ := hrw.r3.form (by dsimp only; omega)
              dsimp only at hA
              subst hA
              obtain ⟨e0, e1, e2, e3, e4⟩ := hrw.r3.at_ hz
              have hsa : z.node ∈ x.nodes := (HOK.out.gn z (List.mem_of_getElem? hz)).1
              have HZ := Lib.hid (take_foldl (fun (l : List Bool) (g : Gn) => l.set (ndIdx x.nodes g.node) true) (List.replicate (n0 + 1) false) hz)
              have hix : ndIdx x.nodes z.node < n0 := by have := (ndIdx_ok hsa).2; have := HN0.out; omega
              have HWB := Lib.hid (HWR.out.alloc (Nat.le_refl _) (.cells #[.string z.name, .string z.node, .int .i64 z.least, .int .i64 z.most, .int .i64 z.ramp] 145))
              have HT2 := Lib.hid (HT.out.up HWB.out)
              have HRN2 : Hid (RdStr (wr.alloc (.cells #[.string z.name, .string z.node, .int .i64 z.least, .int .i64 z.most, .int .i64 z.ramp] 145)) (wr.alloc (.cells #[.string z.name, .string z.node, .int .i64 z.least, .int .i64 z.most, .int .i64 z.ramp] 145)).heap.size A0 n0 x.nodes) := Lib.hid ((hrw.r0.below HWB.out (Nat.le_refl _)).more HWB.out.size)
              have HBX : Hid (Blk (wr.alloc (.cells #[.string z.name, .string z.node, .int .i64 z.least, .int .i64 z.most, .int .i64 z.ramp] 145)) wr.heap.size 145 #[.string z.name, .string z.node, .int .i64 z.least, .int .i64 z.most, .int .i64 z.ramp]) := Lib.hid (Blk.new wr _ _)
              clear hz hrw
              go_wp2_with fail
              have hzw : wr.heap.size < (wr.alloc (.cells #[.string z.name, .string z.node, .int .i64 z.least, .int .i64 z.most, .int .i64 z.ramp] 145)).heap.size := by simp
              clear HWB HT HWR y0 y1 y2 y3 y4 y5 nf nlt e0 e1 e2 e3 e4
              generalize wr.alloc (.cells #[.string z.name, .string z.node, .int .i64 z.least, .int .i64 z.most, .int .i64 z.ramp] 145) = W at *
              generalize wr.heap.size = zb at *
              have q2 : W.cell? ⟨bf, 2, none⟩ = some (.slice (some ⟨g, 0, none⟩) (n0 + 1) (n0 + 1)) := HT2.out.qf.cell 2
              have b1 : W.cell? ⟨zb, 1, none⟩ = some (.string z.node) := HBX.out.cell 1
              have hn63 : n0 ≤ 9223372036854775807 := by omega
              have hixI : (0 : Int) ≤ (ndIdx x.nodes z.node : Int) := by omega
              have hixJ : (ndIdx x.nodes z.node : Int) < (n0 : Int) + 1 := by omega
              refine wp_region_last (S := fun w' => w'.cell? ⟨bf, 2, none⟩ = some (.slice (some ⟨g, 0, none⟩) (n0 + 1) (n0 + 1)) ∧ w'.cell? ⟨zb, 1, none⟩ = some (.string z.node)) 9 _ (by kernel_rfl) (by kernel_rfl) rfl ⟨q2, b1⟩ (fun hHeld => ?_)
              simp only [List.take_succ_cons, List.take_zero]
              refine takeH 0 (v := ?_) rfl (by kernel_rfl) (fun _ _ _ h => h) (by rfl) ?_ hHeld ?_
              rotate_left 1
              · intro w' hSw; (try dsimp only at hSw); go_simp <;> with_reducible rfl
              try simp only [Act.put, List.setIfInBounds_toArray, List.set_cons_zero, List.set_cons_succ]
              refine takeH 1 (v := ?_) rfl (by kernel_rfl) (fun _ _ _ h => h) (by rfl) ?_ hHeld ?_
              rotate_left 1
              · intro w' hSw; (try dsimp only at hSw); go_simp <;> with_reducible rfl
              try simp only [Act.put, List.setIfInBounds_toArray, List.set_cons_zero, List.set_cons_succ]
              refine takeH 2 (v := ?_) rfl (by kernel_rfl) (fun _ _ _ h => h) (by rfl) ?_ hHeld ?_
              rotate_left 1
              · intro w' hSw; (try dsimp only at hSw); go_simp <;> with_reducible rfl
              try simp only [Act.put, List.setIfInBounds_toArray, List.set_cons_zero, List.set_cons_succ]
              refine takeH 3 (v := ?_) rfl (by kernel_rfl) (fun _ _ _ h => h) (by rfl) ?_ hHeld ?_
              rotate_left 1
              · intro w' hSw; (try dsimp only at hSw); go_simp <;> with_reducible rfl
              try simp only [Act.put, List.setIfInBounds_toArray, List.set_cons_zero, List.set_cons_succ]
              refine takeH 4 (v := ?_) rfl (by kernel_rfl) (fun _ _ _ h => h) (by rfl) ?_ hHeld ?_
              rotate_left 1
              · intro w' hSw; (try dsimp only at hSw); go_simp <;> with_reducible rfl
              try simp only [Act.put, List.setIfInBounds_toArray, List.set_cons_zero, List.set_cons_succ]
              refine takeH 5 (v := ?_) rfl (by kernel_rfl) (fun _ _ _ h => h) (by rfl) ?_ hHeld ?_
              rotate_left 1
              · intro w' hSw; (try dsimp only at hSw); go_simp <;> with_reducible rfl
              try simp only [Act.put, List.setIfInBounds_toArray, List.set_cons_zero, List.set_cons_succ]
              refine takeH 6 (v := ?_) rfl (by kernel_rfl) (fun _ _ _ h => h) (by rfl) ?_ hHeld ?_
              rotate_left 1
              · intro w' hSw; (try dsimp only at hSw); go_simp <;> with_reducible rfl
              try simp only [Act.put, List.setIfInBounds_toArray, List.set_cons_zero, List.set_cons_succ]
              refine stepH 7 (by kernel_rfl) rfl (fun K hK => ?_)
              go_simp
              refine (at_any ⟨A0, n0, c0, A1, n1, c1, A2, n2, c2, some ⟨bz, oz, none⟩, n3, c3, A4, n4, c4, A5, n5, c5⟩ x.nodes z.node w.heap.size _ HT2.out.q1.drew HRN2.out hn63 hsa).mono ?_
              rintro e w' ⟨rfl, rfl⟩
              go_simp
              refine hK.out _ _ ?_ (fun hHeld => ?_)
              · exact hHeld
              clear hK K
              try simp only [Act.put, List.setIfInBounds_toArray, List.set_cons_zero, List.set_cons_succ]
              refine takeH 8 (v := ?_) rfl (by kernel_rfl) (fun _ _ _ h => h) (by rfl) ?_ hHeld ?_
              rotate_left 1
              · intro w' hSw; (try dsimp only at hSw); go_simp <;> with_reducible rfl
              try simp only [Act.put, List.setIfInBounds_toArray, List.set_cons_zero, List.set_cons_succ]
              refine wpAnyH_done (by kernel_rfl) ?_ _
              refine lastQ_go (by rfl) ?_
              have HT5 := Lib.hid (HT2.out.put (ndIdx x.nodes z.node))
              have gc : W.drew.cell? ⟨g, ndIdx x.nodes z.node, none⟩ = some (.bool (((((x.gns.take k).foldl (fun l g => l.set (ndIdx x.nodes g.node) true) (List.replicate (n0 + 1) false)))).getD (ndIdx x.nodes z.node) false)) := HT2.out.gcell (by omega)
              have gf : W.drew.frozen? ⟨g, ndIdx x.nodes z.node, none⟩ = false := HT2.out.qg.frozen _
              go_simp
              go_wp2_with fail
              go_roundw
              case rel => exact ⟨k + 1, by omega, by go_num, by rw [HZ.out]; exact HT5.out⟩
              case measure => simp [intOf]; omega
            · have hkk : n3 = k := by omega
              subst hkk
              have HTB : Hid (FoT w bf g ⟨A0, n0, c0, A1, n1, c1, A2, n2, c2, A3, n3, c3, A4, n4, c4, A5, n5, c5⟩ wr n0 (fdPl x p) v (fdEs x opens p) (x.gns.foldl (fun l g => l.set (ndIdx x.nodes g.node) true) (List.replicate (n0 + 1) false))) := Lib.hid (by
                have h := HT.out
                rw [List.take_of_length_le (show x.gns.length ≤ n3 by have := HN3.out; omega)] at h
                exact h)
              clear HT HWR
              go_wp2_with fail
              clear y0 y1 y2 y3 y4 y5 nf nlt
              obtain ⟨wo2, hwo2⟩ : ∃ wo : World, wo = wr := ⟨_, rfl⟩
              clear hwo2
              go_loopw [192] (fun i wr => ∃ (k : Nat), k ≤ n5 ∧ i = .int .i64 k ∧ FoT w bf g ⟨A0, n0, c0, A1, n1, c1, A2, n2, c2, A3, n3, c3, A4, n4, c4, A5, n5, c5⟩ wr n0 (fdPl x p) v (fdEs x opens p) ((x.sts.take k).foldl (fun l g => l.set (ndIdx x.nodes g.node) true) (x.gns.foldl (fun l g => l.set (ndIdx x.nodes g.node) true) (List.replicate (n0 + 1) false)))) (fun i _ => n5 - (intOf i).toNat)
              case atStart => exact ⟨0, by omega, rfl, HTB.out⟩
              case round =>
                obtain ⟨k, hk, rfl, hs⟩ := hrel
                have HT := Lib.hid hs
                obtain ⟨y0, y1, y2, y3, y4, y5, nf, nlt⟩ := net_box hs.q1
                have hsz := hs.sz
                have hbe := hs.bfe
                have hgs := hs.gs
                clear hs
                have HWR := Lib.hid (Below.refl wr.heap.size wr)
                by_cases hlt : k < n5
                · obtain ⟨z, hz⟩ : ∃ z, x.sts[k]? = some z := ⟨_, List.getElem?_eq_getElem (by have := HN5.out; omega)⟩
                  have hrw := HR.out.up HT.out.low
                  obtain ⟨bz, oz, hA, hbz⟩ := hrw.r5.form (by dsimp only; omega)
                  dsimp only at hA
                  subst hA
                  obtain ⟨e0, e1, e2, e3, e4⟩ := hrw.r5.at_ hz
                  have hsa : z.node ∈ x.nodes := (HOK.out.st z (List.mem_of_getElem? hz)).1
                  have HZ := Lib.hid (take_foldl (fun (l : List Bool) (g : St) => l.set (ndIdx x.nodes g.node) true) (x.gns.foldl (fun l g => l.set (ndIdx x.nodes g.node) true) (List.replicate (n0 + 1) false)) hz)
                  have hix : ndIdx x.nodes z.node < n0 := by have := (ndIdx_ok hsa).2; have := HN0.out; omega
                  have HWB := Lib.hid (HWR.out.alloc (Nat.le_refl _) (.cells #[.string z.name, .string z.node, .int .i64 z.charge, .int .i64 z.discharge, .int .i64 z.capacity] 151))
                  have HT2 := Lib.hid (HT.out.up HWB.out)
                  have HRN2 : Hid (RdStr (wr.alloc (.cells #[.string z.name, .string z.node, .int .i64 z.charge, .int .i64 z.discharge, .int .i64 z.capacity] 151)) (wr.alloc (.cells #[.string z.name, .string z.node, .int .i64 z.charge, .int .i64 z.discharge, .int .i64 z.capacity] 151)).heap.size A0 n0 x.nodes) := Lib.hid ((hrw.r0.below HWB.out (Nat.le_refl _)).more HWB.out.size)
                  have HBX : Hid (Blk (wr.alloc (.cells #[.string z.name, .string z.node, .int .i64 z.charge, .int .i64 z.discharge, .int .i64 z.capacity] 151)) wr.heap.size 151 #[.string z.name, .string z.node, .int .i64 z.charge, .int .i64 z.discharge, .int .i64 z.capacity]) := Lib.hid (Blk.new wr _ _)
                  clear hz hrw
                  go_wp2_with fail
                  have hzw : wr.heap.size < (wr.alloc (.cells #[.string z.name, .string z.node, .int .i64 z.charge, .int .i64 z.discharge, .int .i64 z.capacity] 151)).heap.size := by simp
                  clear HWB HT HWR y0 y1 y2 y3 y4 y5 nf nlt e0 e1 e2 e3 e4
                  generalize wr.alloc (.cells #[.string z.name, .string z.node, .int .i64 z.charge, .int .i64 z.discharge, .int .i64 z.capacity] 151) = W at *
                  generalize wr.heap.size = zb at *
                  have q2 : W.cell? ⟨bf, 2, none⟩ = some (.slice (some ⟨g, 0, none⟩) (n0 + 1) (n0 + 1)) := HT2.out.qf.cell 2
                  have b1 : W.cell? ⟨zb, 1, none⟩ = some (.string z.node) := HBX.out.cell 1
                  have hn63 : n0 ≤ 9223372036854775807 := by omega
                  have hixI : (0 : Int) ≤ (ndIdx x.nodes z.node : Int) := by omega
                  have hixJ : (ndIdx x.nodes z.node : Int) < (n0 : Int) + 1 := by omega
                  refine wp_region_last (S := fun w' => w'.cell? ⟨bf, 2, none⟩ = some (.slice (some ⟨g, 0, none⟩) (n0 + 1) (n0 + 1)) ∧ w'.cell? ⟨zb, 1, none⟩ = some (.string z.node)) 9 _ (by kernel_rfl) (by kernel_rfl) rfl ⟨q2, b1⟩ (fun hHeld => ?_)
                  simp only [List.take_succ_cons, List.take_zero]
                  refine takeH 0 (v := ?_) rfl (by kernel_rfl) (fun _ _ _ h => h) (by rfl) ?_ hHeld ?_
                  rotate_left 1
                  · intro w' hSw; (try dsimp only at hSw); go_simp <;> with_reducible rfl
                  try simp only [Act.put, List.setIfInBounds_toArray, List.set_cons_zero, List.set_cons_succ]
                  refine takeH 1 (v := ?_) rfl (by kernel_rfl) (fun _ _ _ h => h) (by rfl) ?_ hHeld ?_
                  rotate_left 1
                  · intro w' hSw; (try dsimp only at hSw); go_simp <;> with_reducible rfl
                  try simp only [Act.put, List.setIfInBounds_toArray, List.set_cons_zero, List.set_cons_succ]
                  refine takeH 2 (v := ?_) rfl (by kernel_rfl) (fun _ _ _ h => h) (by rfl) ?_ hHeld ?_
                  rotate_left 1
                  · intro w' hSw; (try dsimp only at hSw); go_simp <;> with_reducible rfl
                  try simp only [Act.put, List.setIfInBounds_toArray, List.set_cons_zero, List.set_cons_succ]
                  refine takeH 3 (v := ?_) rfl (by kernel_rfl) (fun _ _ _ h => h) (by rfl) ?_ hHeld ?_
                  rotate_left 1
                  · intro w' hSw; (try dsimp only at hSw); go_simp <;> with_reducible rfl
                  try simp only [Act.put, List.setIfInBounds_toArray, List.set_cons_zero, List.set_cons_succ]
                  refine takeH 4 (v := ?_) rfl (by kernel_rfl) (fun _ _ _ h => h) (by rfl) ?_ hHeld ?_
                  rotate_left 1
                  · intro w' hSw; (try dsimp only at hSw); go_simp <;> with_reducible rfl
                  try simp only [Act.put, List.setIfInBounds_toArray, List.set_cons_zero, List.set_cons_succ]
                  refine takeH 5 (v := ?_) rfl (by kernel_rfl) (fun _ _ _ h => h) (by rfl) ?_ hHeld ?_
                  rotate_left 1
                  · intro w' hSw; (try dsimp only at hSw); go_simp <;> with_reducible rfl
                  try simp only [Act.put, List.setIfInBounds_toArray, List.set_cons_zero, List.set_cons_succ]
                  refine takeH 6 (v := ?_) rfl (by kernel_rfl) (fun _ _ _ h => h) (by rfl) ?_ hHeld ?_
                  rotate_left 1
                  · intro w' hSw; (try dsimp only at hSw); go_simp <;> with_reducible rfl
                  try simp only [Act.put, List.setIfInBounds_toArray, List.set_cons_zero, List.set_cons_succ]
                  refine stepH 7 (by kernel_rfl) rfl (fun K hK => ?_)
                  go_simp
                  refine (at_any ⟨A0, n0, c0, A1, n1, c1, A2, n2, c2, A3, n3, c3, A4, n4, c4, some ⟨bz, oz, none⟩, n5, c5⟩ x.nodes z.node w.heap.size _ HT2.out.q1.drew HRN2.out hn63 hsa).mono ?_
                  rintro e w' ⟨rfl, rfl⟩
                  go_simp
                  refine hK.out _ _ ?_ (fun hHeld => ?_)
                  · exact hHeld
                  clear hK K
                  try simp only [Act.put, List.setIfInBounds_toArray, List.set_cons_zero, List.set_cons_succ]
                  refine takeH 8 (v := ?_) rfl (by kernel_rfl) (fun _ _ _ h => h) (by rfl) ?_ hHeld ?_
                  rotate_left 1
                  · intro w' hSw; (try dsimp only at hSw); go_simp <;> with_reducible rfl
                  try simp only [Act.put, List.setIfInBounds_toArray, List.set_cons_zero, List.set_cons_succ]
                  refine wpAnyH_done (by kernel_rfl) ?_ _
                  refine lastQ_go (by rfl) ?_
                  have HT5 := Lib.hid (HT2.out.put (ndIdx x.nodes z.node))
                  have gc : W.drew.cell? ⟨g, ndIdx x.nodes z.node, none⟩ = some (.bool (((((x.sts.take k).foldl (fun l g => l.set (ndIdx x.nodes g.node) true) (x.gns.foldl (fun l g => l.set (ndIdx x.nodes g.node) true) (List.replicate (n0 + 1) false))))).getD (ndIdx x.nodes z.node) false)) := HT2.out.gcell (by omega)
                  have gf : W.drew.frozen? ⟨g, ndIdx x.nodes z.node, none⟩ = false := HT2.out.qg.frozen _
                  go_simp
                  go_wp2_with fail
                  go_roundw
                  case rel => exact ⟨k + 1, by omega, by go_num, by rw [HZ.out]; exact HT5.out⟩
                  case measure => simp [intOf]; omega
                · have hkk : n5 = k := by omega
                  subst hkk
                  have HTC : Hid (FoT w bf g ⟨A0, n0, c0, A1, n1, c1, A2, n2, c2, A3, n3, c3, A4, n4, c4, A5, n5, c5⟩ wr n0 (fdPl x p) v (fdEs x opens p) (fdSrc x)) := Lib.hid (by
                    have h := HT.out
                    rw [List.take_of_length_le (show x.sts.length ≤ n5 by have := HN5.out; omega)] at h
                    unfold fdSrc; rw [HN0.out]; exact h)
                  clear HT HWR
                  go_wp2_with fail
                  go_ret
                  rw [HP.out]
                  have hsl := HTC.out.sl
                  have hbk := HTC.out.qf
                  have e : ((n0 : Int) + 1) = (((fdSrc x).length : Nat) : Int) := by omega
                  rw [e, ← hsl] at hbk
                  exact ⟨HTC.out.low, bf, g, v, rfl, by omega, hbk, HTC.out.qg, HTC.out.own, HTC.out.gs, HTC.out.og⟩
end Go.Proofs.Ythedpegaelpbdaa
