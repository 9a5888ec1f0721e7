/- A branch by its name; the check of a place. -/
import Derived.Test.YthedpegaelpbdaaV0
namespace Go.Proofs.Ythedpegaelpbdaa
open Go.ChangeShapes Go.WideShapes Go.ChangeAt Go.RowKit
set_option linter.unusedVariables false
attribute [local go_sem ↓] execOp_call_val
attribute [local go_sem] callVal_func setCell_drewN alloc_drewN sEq_walk NetH.cells

theorem zbranch1 (x : Br) (s : ByteArray) (g : Nat) (w : World) (hg : w.cell? ⟨g, 0, none⟩ = some (.string s)) :
    Calls Try.prog 89 (#[.agg #[.string x.name, .string x.fr, .string x.to, .int .i64 x.x, .int .i64 x.tap, .int .i64 x.shift, .int .i64 x.limit, .int .i64 x.short, .int .i64 x.hold]] ++ #[.pointer (some ⟨g, 0, none⟩)]) w fun e w' => e = .returned (.bool (sEq x.name s)) ∧ Below w.heap.size w w' := by
  have hlt := World.block_lt_of_cell? w ⟨g, 0, none⟩ hg
  show Calls Try.prog 89 #[.agg #[.string x.name, .string x.fr, .string x.to, .int .i64 x.x, .int .i64 x.tap, .int .i64 x.shift, .int .i64 x.limit, .int .i64 x.short, .int .i64 x.hold], .pointer (some ⟨g, 0, none⟩)] w _
  go_enter Try.func89, Try.ntmps89
  go_wp2_with fail
  go_ret
  exact ⟨rfl, (Below.refl _ _).alloc (Nat.le_refl _) _⟩
theorem enter_zbranch1 (args : Array Value) (w : World) : (callFunc 89 args).run Try.prog w = .ok (.enter 89 args) w :=
  callFunc_enter Try.func89 (by kernel_rfl) rfl args w

def brIdx (x : Net) (s : ByteArray) : Int := idxGo (fun b : Br => sEq b.name s) x.brs 0
theorem brIdx_spec (x : Net) (s : ByteArray) : (brIdx x s = -1 ∧ ∀ b ∈ x.brs, b.name ≠ s) ∨ ∃ (i : Nat) (b : Br), brIdx x s = (i : Int) ∧ x.brs[i]? = some b ∧ b.name = s := by
  rcases idxGo_spec (fun b : Br => sEq b.name s) x.brs 0 with ⟨h1, h2⟩ | ⟨i, b, h1, h2, h3, _⟩
  · exact .inl ⟨h1, fun b hb => sEq_ff.1 (h2 b hb)⟩
  · exact .inr ⟨i, b, by unfold brIdx; rw [h1]; simp, h2, sEq_iff.1 h3⟩

set_option maxHeartbeats 1000000 in
theorem zbranch_any (h : NetH) (x : Net) (s : ByteArray) (w : World) (r : RdNet w w.heap.size h x) :
    Calls Try.prog 48 #[.agg h.cells, .string s] w fun e w' => e = .returned (.int .i64 (brIdx x s)) ∧ Below w.heap.size w w' := by
  have K0 : Below w.heap.size w ((w.alloc (.cells h.cells 29)).alloc (.cells #[.string s] 9)) := ((Below.refl _ _).alloc (Nat.le_refl _) _).alloc (by simp) _
  have HK := Lib.hid K0
  have HR := Lib.hid (r.up K0)
  have hm := r.m2
  have hs : ((w.alloc (.cells h.cells 29)).alloc (.cells #[.string s] 9)).cell? ⟨w.heap.size + 1, 0, none⟩ = some (.string s) := (Blk.new_ (t := 9) (cs := #[.string s]) (w := w.alloc (.cells h.cells 29)) (by simp)).cell 0
  have HS := Lib.hid hs
  clear K0 r hs
  go_enter Try.func48, Try.ntmps48
  go_wp2_with fail
  refine (indexFuncBr _ _ h.A2 h.n2 h.c2 x.brs (fun b => sEq b.name s) (fun w' => Below ((w.alloc (.cells h.cells 29)).alloc (.cells #[.string s] 9)).heap.size ((w.alloc (.cells h.cells 29)).alloc (.cells #[.string s] 9)) w') enter_zbranch1
    (fun w' hb => (HR.out.up hb).r2) (fun z w' _ hb => (zbranch1 z s (w.heap.size + 1) w' ((hb.cell (p := ⟨w.heap.size + 1, 0, none⟩) (by simp)).trans HS.out)).mono fun e w'' ⟨he, hb2⟩ => ⟨he, hb.trans (hb2.mono hb.size)⟩) hm _ (Below.refl _ _)).mono ?_
  rintro e w1 ⟨rfl, hb⟩
  have HB := Lib.hid (HK.out.trans (hb.mono HK.out.size))
  clear hb
  go_wp2_with fail
  go_ret
  exact ⟨rfl, HB.out⟩

structure Fp where
  branch : ByteArray
  part : Int
def cpR (x : Net) (p : Fp) : Int := if netCk x ≠ 0 then netCk x else if brIdx x p.branch < 0 then 6 else if p.part < 0 ∨ 1000 < p.part then 4 else 0

set_option maxHeartbeats 2000000 in
theorem checkPlace_any (h : NetH) (x : Net) (p : Fp) (w : World) (r : RdNet w w.heap.size h x) :
    Calls Try.prog 19 #[.agg h.cells, .agg #[.string p.branch, .int .i64 p.part]] w fun e w' => e = .returned (.int .i64 (cpR x p)) ∧ Below w.heap.size w w' := by
  have K0 : Below w.heap.size w ((w.alloc (.cells h.cells 29)).alloc (.cells #[.string p.branch, .int .i64 p.part] 31)) := ((Below.refl _ _).alloc (Nat.le_refl _) _).alloc (by simp) _
  have HK := Lib.hid K0
  have HR := Lib.hid (r.up K0)
  have HQ1 : Hid (Blk ((w.alloc (.cells h.cells 29)).alloc (.cells #[.string p.branch, .int .i64 p.part] 31)) w.heap.size 29 h.cells) := Lib.hid ((Blk.new w _ _).alloc _)
  have HQ2 : Hid (Blk ((w.alloc (.cells h.cells 29)).alloc (.cells #[.string p.branch, .int .i64 p.part] 31)) (w.heap.size + 1) 31 #[.string p.branch, .int .i64 p.part]) := Lib.hid (Blk.new_ (by simp))
  have hd : cpR x p = if netCk x ≠ 0 then netCk x else if brIdx x p.branch < 0 then 6 else if p.part < 0 ∨ 1000 < p.part then 4 else 0 := rfl
  have HD := Lib.hid hd
  clear K0 r hd
  go_enter Try.func19, Try.ntmps19
  go_wp2_with fail
  refine (check_any h x _ HR.out).mono ?_
  generalize hck : netCk x = ck at HD
  rintro e w1 ⟨rfl, k1⟩
  have HCK := Lib.hid hck
  have hq1 := HQ1.out.below k1 HQ1.out.lt
  have hq2 := HQ2.out.below k1 HQ2.out.lt
  obtain ⟨y0, y1, y2, y3, y4, y5, nf, nlt⟩ := net_box hq1
  obtain ⟨z0, z1, zf, zlt⟩ := check_box hq2
  have HQ3 := Lib.hid hq2
  have HK1 := Lib.hid (HK.out.trans (k1.mono HK.out.size))
  have HR1 := Lib.hid (HR.out.up k1)
  clear k1 hq1 hq2 hck
  by_cases h0 : ck = 0
  · subst h0
    go_wp2_with fail
    refine (zbranch_any h x p.branch _ HR1.out).mono ?_
    generalize hbi : brIdx x p.branch = bi at HD
    rintro e w2 ⟨rfl, k2⟩
    have hq2 := HQ3.out.below k2 HQ3.out.lt
    obtain ⟨g0, g1, gf, glt⟩ := check_box hq2
    have HK2 := Lib.hid (HK1.out.trans (k2.mono HK1.out.size))
    clear k2 hq2 hbi z0 z1 zf
    by_cases h1 : bi < 0
    · go_wp2_with fail
      go_ret
      exact ⟨ret_int (by rw [HD.out, if_neg (by simp), if_pos (by omega)]), HK2.out⟩
    · by_cases h2 : p.part < 0
      · go_wp2_with fail
        go_ret
        exact ⟨ret_int (by rw [HD.out, if_neg (by simp), if_neg (by omega), if_pos (by omega)]), HK2.out⟩
      · by_cases h3 : 1000 < p.part
        · go_wp2_with fail
          go_ret
          exact ⟨ret_int (by rw [HD.out, if_neg (by simp), if_neg (by omega), if_pos (by omega)]), HK2.out⟩
        · go_wp2_with fail
          go_ret
          exact ⟨ret_int (by rw [HD.out, if_neg (by simp), if_neg (by omega), if_neg (by omega)]), HK2.out⟩
  · have hb : (ck != 0) = true := by simpa using h0
    have H0 := Lib.hid h0
    clear h0
    go_wp2_with fail
    go_ret
    exact ⟨ret_int (by rw [HD.out, if_pos H0.out]), HK1.out⟩
end Go.Proofs.Ythedpegaelpbdaa
