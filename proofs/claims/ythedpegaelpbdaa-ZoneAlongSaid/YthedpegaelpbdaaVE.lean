/- gridhallref2.Branch: the place of a branch by its name. -/
import Derived.Test.YthedpegaelpbdaaV1
namespace Go.Proofs.Ythedpegaelpbdaa
open Go.ChangeShapes Go.WideShapes Go.ChangeAt Go.RowKit
set_option linter.unusedVariables false
attribute [local go_sem ↓] execOp_call_val
attribute [local go_sem] callVal_func setCell_drewN alloc_drewN sEq_walk NetH.cells

set_option maxRecDepth 100000 in
set_option maxHeartbeats 2000000 in
theorem refbranch_any (h : NetH) (x : Net) (s : ByteArray) (w : World) (hR : RdNet w w.heap.size h x) :
    Calls Try.prog 20 #[.agg h.cells, .string s] w fun e w' => e = .returned (.int .i64 (brIdx x s)) ∧ Below w.heap.size w w' := by
  have hB0 : Below w.heap.size w (w.alloc (.cells h.cells 29)) := (Below.refl _ _).alloc (Nat.le_refl _) _
  have HB0 := Lib.hid hB0
  have HR := Lib.hid hR
  have HQ : Hid (Blk (w.alloc (.cells h.cells 29)) w.heap.size 29 h.cells) := Lib.hid (Blk.new _ _ _)
  have hm := hR.m2
  have HLEN := Lib.hid hR.r2.1
  have HX : Hid (brIdx x s = idxGo (fun z : Br => sEq z.name s) x.brs 0) := Lib.hid rfl
  clear hB0 hR
  obtain ⟨y0, y1, y2, y3, y4, y5, nf, nlt⟩ := net_box HQ.out
  go_enter Try.func20, Try.ntmps20
  go_wp2_with fail
  go_loopw [10] (fun i wr => ∃ k : Nat, k ≤ h.n2 ∧ i = .int .i64 k ∧ Below w.heap.size w wr ∧ idxGo (fun z : Br => sEq z.name s) x.brs 0 = idxGo (fun z : Br => sEq z.name s) (x.brs.drop k) k) (fun i _ => h.n2 - (intOf i).toNat)
  case atStart => exact ⟨0, by omega, rfl, HB0.out, rfl⟩
  case round =>
    obtain ⟨k, hk, rfl, hb, hidx⟩ := hrel
    have HB := Lib.hid hb
    have HI := Lib.hid hidx
    have hrd := (HR.out.up hb).r2
    clear hb hidx
    by_cases hlt : k < h.n2
    · obtain ⟨z, hz⟩ : ∃ z, x.brs[k]? = some z := ⟨_, List.getElem?_eq_getElem (by have := HLEN.out; omega)⟩
      obtain ⟨b, off, hA, hblt⟩ := hrd.form (by omega)
      rw [hA] at hrd
      obtain ⟨c0, c1, c2, c3, c4, c5, c6, c7, c8⟩ := hrd.at_ hz
      have hAA := hA
      have HZ := Lib.hid (drop_cons hz)
      have HBX := Lib.hid (HB.out.alloc HB.out.size (.cells z.cells.toArray 49))
      clear hz hrd
      by_cases hp : sEq z.name s = true
      · have HP := Lib.hid hp
        go_wp2_with fail
        go_ret
        exact ⟨ret_int (by rw [HX.out, HI.out, HZ.out]; simp [idxGo, HP.out]), HBX.out⟩
      · have hp2 : sEq z.name s = false := by simpa using hp
        have HP := Lib.hid hp2
        clear hp
        go_wp2_with fail
        go_roundw
        case rel => exact ⟨k + 1, by omega, by go_num, HBX.out, by rw [HI.out, HZ.out]; simp [idxGo, HP.out]⟩
        case measure => simp [intOf]; omega
    · have hd : x.brs.drop k = [] := by rw [List.drop_eq_nil_iff]; have := HLEN.out; omega
      have HD := Lib.hid hd
      clear hd hrd
      go_wp2_with fail
      go_ret
      exact ⟨ret_int (by rw [HX.out, HI.out, HD.out]; rfl), HB.out⟩
end Go.Proofs.Ythedpegaelpbdaa
