/- What a name denotes: netmodel.find and Find. -/
import Derived.Test.YthedpegaelpbdaaF0
import Derived.Test.YthedpegaelpbdaaN6
namespace Go.Proofs.Ythedpegaelpbdaa
open Go.ChangeShapes Go.WideShapes Go.ChangeAt Go.RowKit
set_option linter.unusedVariables false
attribute [local go_sem ↓] execOp_call_val
attribute [local go_sem] callVal_func setCell_drewN alloc_drewN sEq_walk NetH.cells

theorem find1_any (x : Sw) (s : ByteArray) (g : Nat) (w : World) (hg : w.cell? ⟨g, 0, none⟩ = some (.string s)) :
    Calls Try.prog 104 (#[.agg #[.string x.name, .string x.a, .string x.b, .bool x.breaker, .bool x.opn]] ++ #[.pointer (some ⟨g, 0, none⟩)]) w fun e w' => e = .returned (.bool (sEq x.name s)) ∧ Below w.heap.size w w' := by
  have hlt := World.block_lt_of_cell? w ⟨g, 0, none⟩ hg
  show Calls Try.prog 104 #[.agg #[.string x.name, .string x.a, .string x.b, .bool x.breaker, .bool x.opn], .pointer (some ⟨g, 0, none⟩)] w _
  go_enter Try.func104, Try.ntmps104
  go_wp2_with fail
  go_ret
  exact ⟨rfl, (Below.refl _ _).alloc (Nat.le_refl _) _⟩
theorem enter_find1 (args : Array Value) (w : World) : (callFunc 104 args).run Try.prog w = .ok (.enter 104 args) w :=
  callFunc_enter Try.func104 (by kernel_rfl) rfl args w
theorem find2_any (x : Br) (s : ByteArray) (g : Nat) (w : World) (hg : w.cell? ⟨g, 0, none⟩ = some (.string s)) :
    Calls Try.prog 105 (#[.agg #[.string x.name, .string x.fr, .string x.to, .int .i64 x.x, .int .i64 x.tap, .int .i64 x.shift, .int .i64 x.limit, .int .i64 x.short, .int .i64 x.hold]] ++ #[.pointer (some ⟨g, 0, none⟩)]) w fun e w' => e = .returned (.bool (sEq x.name s)) ∧ Below w.heap.size w w' := by
  have hlt := World.block_lt_of_cell? w ⟨g, 0, none⟩ hg
  show Calls Try.prog 105 #[.agg #[.string x.name, .string x.fr, .string x.to, .int .i64 x.x, .int .i64 x.tap, .int .i64 x.shift, .int .i64 x.limit, .int .i64 x.short, .int .i64 x.hold], .pointer (some ⟨g, 0, none⟩)] w _
  go_enter Try.func105, Try.ntmps105
  go_wp2_with fail
  go_ret
  exact ⟨rfl, (Below.refl _ _).alloc (Nat.le_refl _) _⟩
theorem enter_find2 (args : Array Value) (w : World) : (callFunc 105 args).run Try.prog w = .ok (.enter 105 args) w :=
  callFunc_enter Try.func105 (by kernel_rfl) rfl args w
theorem find3_any (x : Gn) (s : ByteArray) (g : Nat) (w : World) (hg : w.cell? ⟨g, 0, none⟩ = some (.string s)) :
    Calls Try.prog 107 (#[.agg #[.string x.name, .string x.node, .int .i64 x.least, .int .i64 x.most, .int .i64 x.ramp]] ++ #[.pointer (some ⟨g, 0, none⟩)]) w fun e w' => e = .returned (.bool (sEq x.name s)) ∧ Below w.heap.size w w' := by
  have hlt := World.block_lt_of_cell? w ⟨g, 0, none⟩ hg
  show Calls Try.prog 107 #[.agg #[.string x.name, .string x.node, .int .i64 x.least, .int .i64 x.most, .int .i64 x.ramp], .pointer (some ⟨g, 0, none⟩)] w _
  go_enter Try.func107, Try.ntmps107
  go_wp2_with fail
  go_ret
  exact ⟨rfl, (Below.refl _ _).alloc (Nat.le_refl _) _⟩
theorem enter_find3 (args : Array Value) (w : World) : (callFunc 107 args).run Try.prog w = .ok (.enter 107 args) w :=
  callFunc_enter Try.func107 (by kernel_rfl) rfl args w
theorem find4_any (x : Ld) (s : ByteArray) (g : Nat) (w : World) (hg : w.cell? ⟨g, 0, none⟩ = some (.string s)) :
    Calls Try.prog 109 (#[.agg #[.string x.name, .string x.node, .int .i64 x.demand]] ++ #[.pointer (some ⟨g, 0, none⟩)]) w fun e w' => e = .returned (.bool (sEq x.name s)) ∧ Below w.heap.size w w' := by
  have hlt := World.block_lt_of_cell? w ⟨g, 0, none⟩ hg
  show Calls Try.prog 109 #[.agg #[.string x.name, .string x.node, .int .i64 x.demand], .pointer (some ⟨g, 0, none⟩)] w _
  go_enter Try.func109, Try.ntmps109
  go_wp2_with fail
  go_ret
  exact ⟨rfl, (Below.refl _ _).alloc (Nat.le_refl _) _⟩
theorem enter_find4 (args : Array Value) (w : World) : (callFunc 109 args).run Try.prog w = .ok (.enter 109 args) w :=
  callFunc_enter Try.func109 (by kernel_rfl) rfl args w
theorem find5_any (x : St) (s : ByteArray) (g : Nat) (w : World) (hg : w.cell? ⟨g, 0, none⟩ = some (.string s)) :
    Calls Try.prog 111 (#[.agg #[.string x.name, .string x.node, .int .i64 x.charge, .int .i64 x.discharge, .int .i64 x.capacity]] ++ #[.pointer (some ⟨g, 0, none⟩)]) w fun e w' => e = .returned (.bool (sEq x.name s)) ∧ Below w.heap.size w w' := by
  have hlt := World.block_lt_of_cell? w ⟨g, 0, none⟩ hg
  show Calls Try.prog 111 #[.agg #[.string x.name, .string x.node, .int .i64 x.charge, .int .i64 x.discharge, .int .i64 x.capacity], .pointer (some ⟨g, 0, none⟩)] w _
  go_enter Try.func111, Try.ntmps111
  go_wp2_with fail
  go_ret
  exact ⟨rfl, (Below.refl _ _).alloc (Nat.le_refl _) _⟩
theorem enter_find5 (args : Array Value) (w : World) : (callFunc 111 args).run Try.prog w = .ok (.enter 111 args) w :=
  callFunc_enter Try.func111 (by kernel_rfl) rfl args w
def ixN (x : Net) (s : ByteArray) : Int := idxGo (fun y => sEq s y) x.nodes 0
def ix1 (x : Net) (s : ByteArray) : Int := idxGo (fun y : Sw => sEq y.name s) x.sws 0
def ix2 (x : Net) (s : ByteArray) : Int := idxGo (fun y : Br => sEq y.name s) x.brs 0
def ix3 (x : Net) (s : ByteArray) : Int := idxGo (fun y : Gn => sEq y.name s) x.gns 0
def ix4 (x : Net) (s : ByteArray) : Int := idxGo (fun y : Ld => sEq y.name s) x.lds 0
def ix5 (x : Net) (s : ByteArray) : Int := idxGo (fun y : St => sEq y.name s) x.sts 0
/-- what a name denotes, and its number -/
def findR (x : Net) (s : ByteArray) : ByteArray × Int :=
  if 0 ≤ ixN x s then (⟨#[110, 111, 100, 101]⟩, ixN x s) else if 0 ≤ ix1 x s then (⟨#[115, 119, 105, 116, 99, 104]⟩, ix1 x s) else if 0 ≤ ix2 x s then (⟨#[98, 114, 97, 110, 99, 104]⟩, ix2 x s) else if 0 ≤ ix3 x s then (⟨#[103, 101, 110]⟩, ix3 x s) else if 0 ≤ ix4 x s then (⟨#[108, 111, 97, 100]⟩, ix4 x s) else if 0 ≤ ix5 x s then (⟨#[115, 116, 111, 114, 101]⟩, ix5 x s) else (⟨#[]⟩, -1)
set_option maxHeartbeats 4000000 in
theorem find_any (h : NetH) (x : Net) (s : ByteArray) (w : World) (r : RdNet w w.heap.size h x) :
    Calls Try.prog 81 #[.agg h.cells, .string s] w fun e w' => e = .returned (.tuple #[.string (findR x s).1, .int .i64 (findR x s).2]) ∧ Below w.heap.size w w' := by
  obtain ⟨A0, n0, c0, A1, n1, c1, A2, n2, c2, A3, n3, c3, A4, n4, c4, A5, n5, c5⟩ := h
  dsimp only [NetH.cells] at *
  have K0 : Below w.heap.size w ((w.alloc (.cells #[.slice A0 n0 c0, .slice A1 n1 c1, .slice A2 n2 c2, .slice A3 n3 c3, .slice A4 n4 c4, .slice A5 n5 c5] 29)).alloc (.cells #[.string s] 9)) := ((Below.refl _ _).alloc (Nat.le_refl _) _).alloc (by simp) _
  have HK := Lib.hid K0
  have HR := Lib.hid (r.up K0)
  have hm0 := r.m0
  have HQ0 : Hid (Blk ((w.alloc (.cells #[.slice A0 n0 c0, .slice A1 n1 c1, .slice A2 n2 c2, .slice A3 n3 c3, .slice A4 n4 c4, .slice A5 n5 c5] 29)).alloc (.cells #[.string s] 9)) w.heap.size 29 #[.slice A0 n0 c0, .slice A1 n1 c1, .slice A2 n2 c2, .slice A3 n3 c3, .slice A4 n4 c4, .slice A5 n5 c5]) := Lib.hid ((Blk.new w _ _).alloc _)
  have HS0 : Hid (Blk ((w.alloc (.cells #[.slice A0 n0 c0, .slice A1 n1 c1, .slice A2 n2 c2, .slice A3 n3 c3, .slice A4 n4 c4, .slice A5 n5 c5] 29)).alloc (.cells #[.string s] 9)) (w.heap.size + 1) 9 #[.string s]) := Lib.hid (Blk.new_ (by simp))
  have HFR : Hid (findR x s = if 0 ≤ ixN x s then (⟨#[110, 111, 100, 101]⟩, ixN x s) else if 0 ≤ ix1 x s then (⟨#[115, 119, 105, 116, 99, 104]⟩, ix1 x s) else if 0 ≤ ix2 x s then (⟨#[98, 114, 97, 110, 99, 104]⟩, ix2 x s) else if 0 ≤ ix3 x s then (⟨#[103, 101, 110]⟩, ix3 x s) else if 0 ≤ ix4 x s then (⟨#[108, 111, 97, 100]⟩, ix4 x s) else if 0 ≤ ix5 x s then (⟨#[115, 116, 111, 114, 101]⟩, ix5 x s) else (⟨#[]⟩, -1)) := Lib.hid rfl
  clear K0 r
  go_enter Try.func81, Try.ntmps81
  go_wp2_with fail
  generalize (w.alloc (.cells #[.slice A0 n0 c0, .slice A1 n1 c1, .slice A2 n2 c2, .slice A3 n3 c3, .slice A4 n4 c4, .slice A5 n5 c5] 29)).alloc (.cells #[.string s] 9) = W0 at *
  refine (index_str A0 n0 c0 x.nodes s W0 HR.out.r0 hm0).mono ?_
  rintro e w1 ⟨rfl, rfl⟩
  obtain ⟨y0, y1, y2, y3, y4, y5, nf, nlt⟩ := net_box (h := ⟨A0, n0, c0, A1, n1, c1, A2, n2, c2, A3, n3, c3, A4, n4, c4, A5, n5, c5⟩) HQ0.out
  have hsc := HS0.out.cell 0
  change Hid (findR x s = if 0 ≤ ixN x s then _ else _) at HFR
  rw [show idxGo (fun y => sEq s y) x.nodes 0 = ixN x s from rfl]
  by_cases h0 : 0 ≤ ixN x s
  · have HE : Hid (findR x s = (⟨#[110, 111, 100, 101]⟩, ixN x s)) := Lib.hid (by rw [HFR.out, if_pos h0])
    go_wp2_with fail
    go_ret2
    exact ⟨by rw [HE.out]; rfl, HK.out⟩
  have H0n : Hid (¬ 0 ≤ ixN x s) := Lib.hid h0
  have hm1 := HR.out.m1
  have HK1 := Lib.hid HK.out
  go_wp2_with fail
  refine (indexFuncSw _ _ A1 n1 c1 x.sws (fun y => sEq y.name s) (fun w' => Below W0.heap.size W0 w') enter_find1
    (fun w' hb => (HR.out.up hb).r1) (fun z w' _ hb => (find1_any z s (w.heap.size + 1) w' ((hb.cell (p := ⟨w.heap.size + 1, 0, none⟩) (World.block_lt_of_cell? W0 ⟨w.heap.size + 1, 0, none⟩ hsc)).trans hsc)).mono fun e w'' ⟨he, hb2⟩ => ⟨he, hb.trans (hb2.mono hb.size)⟩) hm1 W0 (Below.refl _ _)).mono ?_
  rintro e W1 ⟨rfl, hb1⟩
  rw [show idxGo (fun y : Sw => sEq y.name s) x.sws 0 = ix1 x s from rfl]
  have HK := Lib.hid (HK.out.trans (hb1.mono HK.out.size))
  have HR := Lib.hid (HR.out.up hb1)
  have hsc := (hb1.cell (p := ⟨w.heap.size + 1, 0, none⟩) (World.block_lt_of_cell? W0 ⟨w.heap.size + 1, 0, none⟩ hsc)).trans hsc
  have HQ0 := Lib.hid (HQ0.out.below hb1 HQ0.out.lt)
  obtain ⟨y0, y1, y2, y3, y4, y5, nf, nlt⟩ := net_box (h := ⟨A0, n0, c0, A1, n1, c1, A2, n2, c2, A3, n3, c3, A4, n4, c4, A5, n5, c5⟩) HQ0.out
  clear hb1
  by_cases h1 : 0 ≤ ix1 x s
  · have HE : Hid (findR x s = (⟨#[115, 119, 105, 116, 99, 104]⟩, ix1 x s)) := Lib.hid (by rw [HFR.out, if_neg (by have := H0n.out; omega), if_pos h1])
    go_wp2_with fail
    go_ret2
    exact ⟨by rw [HE.out]; rfl, HK.out⟩
  have H1n : Hid (¬ 0 ≤ ix1 x s) := Lib.hid h1
  have hm2 := HR.out.m2
  have HK2 := Lib.hid HK.out
  go_wp2_with fail
  refine (indexFuncBr _ _ A2 n2 c2 x.brs (fun y => sEq y.name s) (fun w' => Below W1.heap.size W1 w') enter_find2
    (fun w' hb => (HR.out.up hb).r2) (fun z w' _ hb => (find2_any z s (w.heap.size + 1) w' ((hb.cell (p := ⟨w.heap.size + 1, 0, none⟩) (World.block_lt_of_cell? W1 ⟨w.heap.size + 1, 0, none⟩ hsc)).trans hsc)).mono fun e w'' ⟨he, hb2⟩ => ⟨he, hb.trans (hb2.mono hb.size)⟩) hm2 W1 (Below.refl _ _)).mono ?_
  rintro e W2 ⟨rfl, hb2⟩
  rw [show idxGo (fun y : Br => sEq y.name s) x.brs 0 = ix2 x s from rfl]
  have HK := Lib.hid (HK.out.trans (hb2.mono HK.out.size))
  have HR := Lib.hid (HR.out.up hb2)
  have hsc := (hb2.cell (p := ⟨w.heap.size + 1, 0, none⟩) (World.block_lt_of_cell? W1 ⟨w.heap.size + 1, 0, none⟩ hsc)).trans hsc
  have HQ0 := Lib.hid (HQ0.out.below hb2 HQ0.out.lt)
  obtain ⟨y0, y1, y2, y3, y4, y5, nf, nlt⟩ := net_box (h := ⟨A0, n0, c0, A1, n1, c1, A2, n2, c2, A3, n3, c3, A4, n4, c4, A5, n5, c5⟩) HQ0.out
  clear hb2
  by_cases h2 : 0 ≤ ix2 x s
  · have HE : Hid (findR x s = (⟨#[98, 114, 97, 110, 99, 104]⟩, ix2 x s)) := Lib.hid (by rw [HFR.out, if_neg (by have := H0n.out; omega), if_neg (by have := H1n.out; omega), if_pos h2])
    go_wp2_with fail
    go_ret2
    exact ⟨by rw [HE.out]; rfl, HK.out⟩
  have H2n : Hid (¬ 0 ≤ ix2 x s) := Lib.hid h2
  have hm3 := HR.out.m3
  have HK3 := Lib.hid HK.out
  go_wp2_with fail
  refine (indexFuncGn _ _ A3 n3 c3 x.gns (fun y => sEq y.name s) (fun w' => Below W2.heap.size W2 w') enter_find3
    (fun w' hb => (HR.out.up hb).r3) (fun z w' _ hb => (find3_any z s (w.heap.size + 1) w' ((hb.cell (p := ⟨w.heap.size + 1, 0, none⟩) (World.block_lt_of_cell? W2 ⟨w.heap.size + 1, 0, none⟩ hsc)).trans hsc)).mono fun e w'' ⟨he, hb2⟩ => ⟨he, hb.trans (hb2.mono hb.size)⟩) hm3 W2 (Below.refl _ _)).mono ?_
  rintro e W3 ⟨rfl, hb3⟩
  rw [show idxGo (fun y : Gn => sEq y.name s) x.gns 0 = ix3 x s from rfl]
  have HK := Lib.hid (HK.out.trans (hb3.mono HK.out.size))
  have HR := Lib.hid (HR.out.up hb3)
  have hsc := (hb3.cell (p := ⟨w.heap.size + 1, 0, none⟩) (World.block_lt_of_cell? W2 ⟨w.heap.size + 1, 0, none⟩ hsc)).trans hsc
  have HQ0 := Lib.hid (HQ0.out.below hb3 HQ0.out.lt)
  obtain ⟨y0, y1, y2, y3, y4, y5, nf, nlt⟩ := net_box (h := ⟨A0, n0, c0, A1, n1, c1, A2, n2, c2, A3, n3, c3, A4, n4, c4, A5, n5, c5⟩) HQ0.out
  clear hb3
  by_cases h3 : 0 ≤ ix3 x s
  · have HE : Hid (findR x s = (⟨#[103, 101, 110]⟩, ix3 x s)) := Lib.hid (by rw [HFR.out, if_neg (by have := H0n.out; omega), if_neg (by have := H1n.out; omega), if_neg (by have := H2n.out; omega), if_pos h3])
    go_wp2_with fail
    go_ret2
    exact ⟨by rw [HE.out]; rfl, HK.out⟩
  have H3n : Hid (¬ 0 ≤ ix3 x s) := Lib.hid h3
  have hm4 := HR.out.m4
  have HK4 := Lib.hid HK.out
  go_wp2_with fail
  refine (indexFuncLd _ _ A4 n4 c4 x.lds (fun y => sEq y.name s) (fun w' => Below W3.heap.size W3 w') enter_find4
    (fun w' hb => (HR.out.up hb).r4) (fun z w' _ hb => (find4_any z s (w.heap.size + 1) w' ((hb.cell (p := ⟨w.heap.size + 1, 0, none⟩) (World.block_lt_of_cell? W3 ⟨w.heap.size + 1, 0, none⟩ hsc)).trans hsc)).mono fun e w'' ⟨he, hb2⟩ => ⟨he, hb.trans (hb2.mono hb.size)⟩) hm4 W3 (Below.refl _ _)).mono ?_
  rintro e W4 ⟨rfl, hb4⟩
  rw [show idxGo (fun y : Ld => sEq y.name s) x.lds 0 = ix4 x s from rfl]
  have HK := Lib.hid (HK.out.trans (hb4.mono HK.out.size))
  have HR := Lib.hid (HR.out.up hb4)
  have hsc := (hb4.cell (p := ⟨w.heap.size + 1, 0, none⟩) (World.block_lt_of_cell? W3 ⟨w.heap.size + 1, 0, none⟩ hsc)).trans hsc
  have HQ0 := Lib.hid (HQ0.out.below hb4 HQ0.out.lt)
  obtain ⟨y0, y1, y2, y3, y4, y5, nf, nlt⟩ := net_box (h := ⟨A0, n0, c0, A1, n1, c1, A2, n2, c2, A3, n3, c3, A4, n4, c4, A5, n5, c5⟩) HQ0.out
  clear hb4
  by_cases h4 : 0 ≤ ix4 x s
  · have HE : Hid (findR x s = (⟨#[108, 111, 97, 100]⟩, ix4 x s)) := Lib.hid (by rw [HFR.out, if_neg (by have := H0n.out; omega), if_neg (by have := H1n.out; omega), if_neg (by have := H2n.out; omega), if_neg (by have := H3n.out; omega), if_pos h4])
    go_wp2_with fail
    go_ret2
    exact ⟨by rw [HE.out]; rfl, HK.out⟩
  have H4n : Hid (¬ 0 ≤ ix4 x s) := Lib.hid h4
  have hm5 := HR.out.m5
  have HK5 := Lib.hid HK.out
  go_wp2_with fail
  refine (indexFuncSt _ _ A5 n5 c5 x.sts (fun y => sEq y.name s) (fun w' => Below W4.heap.size W4 w') enter_find5
    (fun w' hb => (HR.out.up hb).r5) (fun z w' _ hb => (find5_any z s (w.heap.size + 1) w' ((hb.cell (p := ⟨w.heap.size + 1, 0, none⟩) (World.block_lt_of_cell? W4 ⟨w.heap.size + 1, 0, none⟩ hsc)).trans hsc)).mono fun e w'' ⟨he, hb2⟩ => ⟨he, hb.trans (hb2.mono hb.size)⟩) hm5 W4 (Below.refl _ _)).mono ?_
  rintro e W5 ⟨rfl, hb5⟩
  rw [show idxGo (fun y : St => sEq y.name s) x.sts 0 = ix5 x s from rfl]
  have HK := Lib.hid (HK.out.trans (hb5.mono HK.out.size))
  have HR := Lib.hid (HR.out.up hb5)
  have hsc := (hb5.cell (p := ⟨w.heap.size + 1, 0, none⟩) (World.block_lt_of_cell? W4 ⟨w.heap.size + 1, 0, none⟩ hsc)).trans hsc
  have HQ0 := Lib.hid (HQ0.out.below hb5 HQ0.out.lt)
  obtain ⟨y0, y1, y2, y3, y4, y5, nf, nlt⟩ := net_box (h := ⟨A0, n0, c0, A1, n1, c1, A2, n2, c2, A3, n3, c3, A4, n4, c4, A5, n5, c5⟩) HQ0.out
  clear hb5
  by_cases h5 : 0 ≤ ix5 x s
  · have HE : Hid (findR x s = (⟨#[115, 116, 111, 114, 101]⟩, ix5 x s)) := Lib.hid (by rw [HFR.out, if_neg (by have := H0n.out; omega), if_neg (by have := H1n.out; omega), if_neg (by have := H2n.out; omega), if_neg (by have := H3n.out; omega), if_neg (by have := H4n.out; omega), if_pos h5])
    go_wp2_with fail
    go_ret2
    exact ⟨by rw [HE.out]; rfl, HK.out⟩
  have H5n : Hid (¬ 0 ≤ ix5 x s) := Lib.hid h5
  have HE : Hid (findR x s = (⟨#[]⟩, -1)) := Lib.hid (by rw [HFR.out, if_neg (by have := H0n.out; omega), if_neg (by have := H1n.out; omega), if_neg (by have := H2n.out; omega), if_neg (by have := H3n.out; omega), if_neg (by have := H4n.out; omega), if_neg h5])
  go_wp2_with fail
  go_ret2
  exact ⟨by rw [HE.out]; rfl, HK.out⟩
def FindP (x : Net) (s : ByteArray) (w : World) (e : Ending) (w' : World) : Prop := Below w.heap.size w w' ∧ ∃ k i j, e = .returned (.tuple #[.string k, .int .i64 i, .int .i64 j]) ∧ ((j ≠ 0 ∨ k ≠ ⟨#[115, 119, 105, 116, 99, 104]⟩) ↔ ¬ (ixN x s < 0 ∧ 0 ≤ ix1 x s))
theorem findR_sw (x : Net) (s : ByteArray) : ((findR x s).2 < 0 ∨ (findR x s).1 ≠ ⟨#[115, 119, 105, 116, 99, 104]⟩) ↔ ¬ (ixN x s < 0 ∧ 0 ≤ ix1 x s) := by
  unfold findR
  split
  · rename_i h; simp; omega
  · split
    · rename_i h1 h2; simp; omega
    · have : ¬ (ixN x s < 0 ∧ 0 ≤ ix1 x s) := by omega
      simp only [this, not_false_eq_true, iff_true]
      repeat' split
      all_goals first | (left; dsimp only; omega) | (right; simp)
set_option maxHeartbeats 4000000 in
theorem netFind_any (h : NetH) (x : Net) (s : ByteArray) (w : World) (r : RdNet w w.heap.size h x) (hok : netCk x = 0) :
    Calls Try.prog 38 #[.agg h.cells, .string s] w (FindP x s w) := by
  obtain ⟨A0, n0, c0, A1, n1, c1, A2, n2, c2, A3, n3, c3, A4, n4, c4, A5, n5, c5⟩ := h
  dsimp only [NetH.cells] at *
  have K0 : Below w.heap.size w (w.alloc (.cells #[.slice A0 n0 c0, .slice A1 n1 c1, .slice A2 n2 c2, .slice A3 n3 c3, .slice A4 n4 c4, .slice A5 n5 c5] 29)) := (Below.refl _ _).alloc (Nat.le_refl _) _
  have HK := Lib.hid K0
  have HR := Lib.hid (r.up K0)
  have HQ0 : Hid (Blk (w.alloc (.cells #[.slice A0 n0 c0, .slice A1 n1 c1, .slice A2 n2 c2, .slice A3 n3 c3, .slice A4 n4 c4, .slice A5 n5 c5] 29)) w.heap.size 29 #[.slice A0 n0 c0, .slice A1 n1 c1, .slice A2 n2 c2, .slice A3 n3 c3, .slice A4 n4 c4, .slice A5 n5 c5]) := Lib.hid (Blk.new w _ _)
  have HP : Hid (∀ e w', FindP x s w e w' = (Below w.heap.size w w' ∧ ∃ k i j, e = .returned (.tuple #[.string k, .int .i64 i, .int .i64 j]) ∧ ((j ≠ 0 ∨ k ≠ ⟨#[115, 119, 105, 116, 99, 104]⟩) ↔ ¬ (ixN x s < 0 ∧ 0 ≤ ix1 x s)))) := Lib.hid fun _ _ => rfl
  have HCK := Lib.hid hok
  have HSW := Lib.hid (findR_sw x s)
  clear K0 r hok
  go_enter Try.func38, Try.ntmps38
  go_wp2_with fail
  generalize w.alloc (.cells #[.slice A0 n0 c0, .slice A1 n1 c1, .slice A2 n2 c2, .slice A3 n3 c3, .slice A4 n4 c4, .slice A5 n5 c5] 29) = W0 at *
  refine (check_any ⟨A0, n0, c0, A1, n1, c1, A2, n2, c2, A3, n3, c3, A4, n4, c4, A5, n5, c5⟩ x _ HR.out).mono ?_
  rw [HCK.out]
  rintro e w1 ⟨rfl, k1⟩
  have HR1 := Lib.hid (HR.out.up k1)
  have HK1 := Lib.hid (HK.out.trans (k1.mono HK.out.size))
  have hq := HQ0.out.below k1 HQ0.out.lt
  obtain ⟨y0, y1, y2, y3, y4, y5, nf, nlt⟩ := net_box (h := ⟨A0, n0, c0, A1, n1, c1, A2, n2, c2, A3, n3, c3, A4, n4, c4, A5, n5, c5⟩) hq
  clear k1 hq
  go_wp2_with fail
  refine (find_any ⟨A0, n0, c0, A1, n1, c1, A2, n2, c2, A3, n3, c3, A4, n4, c4, A5, n5, c5⟩ x s w1 HR1.out).mono ?_
  rintro e w2 ⟨rfl, k2⟩
  have HK2 := Lib.hid (HK1.out.trans (k2.mono HK1.out.size))
  clear k2
  generalize hfr : findR x s = FR at *
  obtain ⟨kind, i⟩ := FR
  have HSW2 : Hid ((i < 0 ∨ kind ≠ ⟨#[115, 119, 105, 116, 99, 104]⟩) ↔ ¬ (ixN x s < 0 ∧ 0 ≤ ix1 x s)) := Lib.hid HSW.out
  clear hfr
  dsimp only
  by_cases hneg : i < 0
  · go_wp2_with fail
    go_ret3
    rw [HP.out]
    exact ⟨HK2.out, _, _, _, rfl, by rw [← HSW2.out]; simp [hneg]⟩
  · go_wp2_with fail
    go_ret3
    rw [HP.out]
    exact ⟨HK2.out, _, _, _, rfl, by rw [← HSW2.out]; exact ⟨fun h => h.elim (fun h => absurd rfl h) .inr, fun h => h.elim (fun h => absurd h (by omega)) .inr⟩⟩
end Go.Proofs.Ythedpegaelpbdaa
