/- The closures of fault.Check and clear; the breaker and the branch of a relay. -/
import Derived.Test.YthedpegaelpbdaaE0
import Derived.Test.YthedpegaelpbdaaN6
namespace Go.Proofs.Ythedpegaelpbdaa
open Go.ChangeShapes Go.WideShapes Go.ChangeAt Go.RowKit Go.Joins Go.Deep
set_option linter.unusedVariables false
attribute [local go_sem ↓] execOp_call_val
attribute [local go_sem] callVal_func setCell_drewN alloc_drewN sEq_walk NetH.cells


theorem cbrk1_any (x : Sw) (y : ByteArray) (g : Nat) (w : World) (hg : w.cell? ⟨g, 0, none⟩ = some (.string y)) :
    Calls Try.prog 122 (#[.agg #[.string x.name, .string x.a, .string x.b, .bool x.breaker, .bool x.opn]] ++ #[.pointer (some ⟨g, 0, none⟩)]) w fun e w' => e = .returned (.bool (sEq x.name y)) ∧ Below w.heap.size w w' := by
  have hlt := World.block_lt_of_cell? w ⟨g, 0, none⟩ hg
  show Calls Try.prog 122 #[.agg #[.string x.name, .string x.a, .string x.b, .bool x.breaker, .bool x.opn], .pointer (some ⟨g, 0, none⟩)] w _
  go_enter Try.func122, Try.ntmps122
  go_wp2_with fail
  go_ret
  exact ⟨rfl, (Below.refl _ _).alloc (Nat.le_refl _) _⟩
theorem enter_cbrk1 (args : Array Value) (w : World) : (callFunc 122 args).run Try.prog w = .ok (.enter 122 args) w :=
  callFunc_enter Try.func122 (by kernel_rfl) rfl args w

theorem cbra1_any (x : Br) (y : ByteArray) (g : Nat) (w : World) (hg : w.cell? ⟨g, 1, none⟩ = some (.string y)) :
    Calls Try.prog 123 (#[.agg #[.string x.name, .string x.fr, .string x.to, .int .i64 x.x, .int .i64 x.tap, .int .i64 x.shift, .int .i64 x.limit, .int .i64 x.short, .int .i64 x.hold]] ++ #[.pointer (some ⟨g, 0, none⟩)]) w fun e w' => e = .returned (.bool (sEq x.name y)) ∧ Below w.heap.size w w' := by
  have hlt := World.block_lt_of_cell? w ⟨g, 1, none⟩ hg
  show Calls Try.prog 123 #[.agg #[.string x.name, .string x.fr, .string x.to, .int .i64 x.x, .int .i64 x.tap, .int .i64 x.shift, .int .i64 x.limit, .int .i64 x.short, .int .i64 x.hold], .pointer (some ⟨g, 0, none⟩)] w _
  go_enter Try.func123, Try.ntmps123
  go_wp2_with fail
  go_ret
  exact ⟨rfl, (Below.refl _ _).alloc (Nat.le_refl _) _⟩
theorem enter_cbra1 (args : Array Value) (w : World) : (callFunc 123 args).run Try.prog w = .ok (.enter 123 args) w :=
  callFunc_enter Try.func123 (by kernel_rfl) rfl args w

theorem fck1_any (x : Gn) (y : ByteArray) (g : Nat) (w : World) (hg : w.cell? ⟨g, 0, none⟩ = some (.string y)) :
    Calls Try.prog 119 (#[.agg #[.string x.name, .string x.node, .int .i64 x.least, .int .i64 x.most, .int .i64 x.ramp]] ++ #[.pointer (some ⟨g, 0, none⟩)]) w fun e w' => e = .returned (.bool (sEq x.name y)) ∧ Below w.heap.size w w' := by
  have hlt := World.block_lt_of_cell? w ⟨g, 0, none⟩ hg
  show Calls Try.prog 119 #[.agg #[.string x.name, .string x.node, .int .i64 x.least, .int .i64 x.most, .int .i64 x.ramp], .pointer (some ⟨g, 0, none⟩)] w _
  go_enter Try.func119, Try.ntmps119
  go_wp2_with fail
  go_ret
  exact ⟨rfl, (Below.refl _ _).alloc (Nat.le_refl _) _⟩
theorem enter_fck1 (args : Array Value) (w : World) : (callFunc 119 args).run Try.prog w = .ok (.enter 119 args) w :=
  callFunc_enter Try.func119 (by kernel_rfl) rfl args w

theorem fck2_any (x : Fs) (y : ByteArray) (g : Nat) (w : World) (hg : w.cell? ⟨g, 0, none⟩ = some (.string y)) :
    Calls Try.prog 121 (#[.agg #[.string x.gen, .int .i64 x.x]] ++ #[.pointer (some ⟨g, 0, none⟩)]) w fun e w' => e = .returned (.bool (sEq x.gen y)) ∧ Below w.heap.size w w' := by
  have hlt := World.block_lt_of_cell? w ⟨g, 0, none⟩ hg
  show Calls Try.prog 121 #[.agg #[.string x.gen, .int .i64 x.x], .pointer (some ⟨g, 0, none⟩)] w _
  go_enter Try.func121, Try.ntmps121
  go_wp2_with fail
  go_ret
  exact ⟨rfl, (Below.refl _ _).alloc (Nat.le_refl _) _⟩
theorem enter_fck2 (args : Array Value) (w : World) : (callFunc 121 args).run Try.prog w = .ok (.enter 121 args) w :=
  callFunc_enter Try.func121 (by kernel_rfl) rfl args w

def cbrkR (x : Net) (z : Cr) : Int := idxGo (fun y : Sw => sEq y.name z.brk) x.sws 0
set_option maxHeartbeats 1000000 in
theorem cbrk_any (h : NetH) (x : Net) (z : Ch) (w : World) (r : RdNet w w.heap.size h x) :
    Calls Try.prog 95 #[.agg h.cells, .agg #[.string z.r.brk, .string z.r.branch, .string z.r.node, .slice z.A z.n z.c, .int .i64 z.r.pick, .int .i64 z.r.opn]] w fun e w' => e = .returned (.int .i64 (cbrkR x z.r)) ∧ Below w.heap.size w w' := by
  have K0 : Below w.heap.size w ((w.alloc (.cells h.cells 29)).alloc (.cells #[.string z.r.brk, .string z.r.branch, .string z.r.node, .slice z.A z.n z.c, .int .i64 z.r.pick, .int .i64 z.r.opn] 68)) := ((Below.refl _ _).alloc (Nat.le_refl _) _).alloc (by simp) _
  have HK := Lib.hid K0
  have HR := Lib.hid (r.up K0)
  have hm := r.m1
  have hs : ((w.alloc (.cells h.cells 29)).alloc (.cells #[.string z.r.brk, .string z.r.branch, .string z.r.node, .slice z.A z.n z.c, .int .i64 z.r.pick, .int .i64 z.r.opn] 68)).cell? ⟨w.heap.size + 1, 0, none⟩ = some (.string z.r.brk) := (Blk.new_ (t := 68) (cs := #[.string z.r.brk, .string z.r.branch, .string z.r.node, .slice z.A z.n z.c, .int .i64 z.r.pick, .int .i64 z.r.opn]) (w := w.alloc (.cells h.cells 29)) (by simp)).cell 0
  have HS := Lib.hid hs
  clear K0 r hs
  go_enter Try.func95, Try.ntmps95
  go_wp2_with fail
  refine (indexFuncSw _ _ h.A1 h.n1 h.c1 x.sws (fun y => sEq y.name z.r.brk) (fun w' => Below ((w.alloc (.cells h.cells 29)).alloc (.cells #[.string z.r.brk, .string z.r.branch, .string z.r.node, .slice z.A z.n z.c, .int .i64 z.r.pick, .int .i64 z.r.opn] 68)).heap.size ((w.alloc (.cells h.cells 29)).alloc (.cells #[.string z.r.brk, .string z.r.branch, .string z.r.node, .slice z.A z.n z.c, .int .i64 z.r.pick, .int .i64 z.r.opn] 68)) w') enter_cbrk1
    (fun w' hb => (HR.out.up hb).r1) (fun y w' _ hb => (cbrk1_any y z.r.brk (w.heap.size + 1) w' ((hb.cell (p := ⟨w.heap.size + 1, 0, none⟩) (by simp)).trans HS.out)).mono fun e w'' ⟨he, hb2⟩ => ⟨he, hb.trans (hb2.mono hb.size)⟩) hm _ (Below.refl _ _)).mono ?_
  rintro e w1 ⟨rfl, hb⟩
  have HB := Lib.hid (HK.out.trans (hb.mono HK.out.size))
  clear hb
  go_wp2_with fail
  go_ret
  exact ⟨rfl, HB.out⟩

def cbraR (x : Net) (z : Cr) : Int := idxGo (fun y : Br => sEq y.name z.branch) x.brs 0
set_option maxHeartbeats 1000000 in
theorem cbra_any (h : NetH) (x : Net) (z : Ch) (w : World) (r : RdNet w w.heap.size h x) :
    Calls Try.prog 96 #[.agg h.cells, .agg #[.string z.r.brk, .string z.r.branch, .string z.r.node, .slice z.A z.n z.c, .int .i64 z.r.pick, .int .i64 z.r.opn]] w fun e w' => e = .returned (.int .i64 (cbraR x z.r)) ∧ Below w.heap.size w w' := by
  have K0 : Below w.heap.size w ((w.alloc (.cells h.cells 29)).alloc (.cells #[.string z.r.brk, .string z.r.branch, .string z.r.node, .slice z.A z.n z.c, .int .i64 z.r.pick, .int .i64 z.r.opn] 68)) := ((Below.refl _ _).alloc (Nat.le_refl _) _).alloc (by simp) _
  have HK := Lib.hid K0
  have HR := Lib.hid (r.up K0)
  have hm := r.m2
  have hs : ((w.alloc (.cells h.cells 29)).alloc (.cells #[.string z.r.brk, .string z.r.branch, .string z.r.node, .slice z.A z.n z.c, .int .i64 z.r.pick, .int .i64 z.r.opn] 68)).cell? ⟨w.heap.size + 1, 1, none⟩ = some (.string z.r.branch) := (Blk.new_ (t := 68) (cs := #[.string z.r.brk, .string z.r.branch, .string z.r.node, .slice z.A z.n z.c, .int .i64 z.r.pick, .int .i64 z.r.opn]) (w := w.alloc (.cells h.cells 29)) (by simp)).cell 1
  have HS := Lib.hid hs
  clear K0 r hs
  go_enter Try.func96, Try.ntmps96
  go_wp2_with fail
  refine (indexFuncBr _ _ h.A2 h.n2 h.c2 x.brs (fun y => sEq y.name z.r.branch) (fun w' => Below ((w.alloc (.cells h.cells 29)).alloc (.cells #[.string z.r.brk, .string z.r.branch, .string z.r.node, .slice z.A z.n z.c, .int .i64 z.r.pick, .int .i64 z.r.opn] 68)).heap.size ((w.alloc (.cells h.cells 29)).alloc (.cells #[.string z.r.brk, .string z.r.branch, .string z.r.node, .slice z.A z.n z.c, .int .i64 z.r.pick, .int .i64 z.r.opn] 68)) w') enter_cbra1
    (fun w' hb => (HR.out.up hb).r2) (fun y w' _ hb => (cbra1_any y z.r.branch (w.heap.size + 1) w' ((hb.cell (p := ⟨w.heap.size + 1, 1, none⟩) (by simp)).trans HS.out)).mono fun e w'' ⟨he, hb2⟩ => ⟨he, hb.trans (hb2.mono hb.size)⟩) hm _ (Below.refl _ _)).mono ?_
  rintro e w1 ⟨rfl, hb⟩
  have HB := Lib.hid (HK.out.trans (hb.mono HK.out.size))
  clear hb
  go_wp2_with fail
  go_ret
  exact ⟨rfl, HB.out⟩
end Go.Proofs.Ythedpegaelpbdaa
