/- settings.check: the walk. -/
import Derived.Test.YthedpegaelpbdaaE0
import Derived.Test.YthedpegaelpbdaaT1
import Derived.Test.YthedpegaelpbdaaKL
namespace Go.Proofs.Ythedpegaelpbdaa
open Go.ChangeShapes Go.WideShapes Go.ChangeAt Go.RowKit Go.Joins Go.Deep
set_option linter.unusedVariables false
attribute [local go_sem ↓] execOp_call_val
attribute [local go_sem] callVal_func setCell_drewN alloc_drewN sEq_walk NetH.cells

/-- the first fault of the curves -/
def cvGo : List Cr → Int
  | [] => 0
  | z :: t => if ckC z.curve ≠ 0 then ckC z.curve else cvGo t
def sckR (r : List Cr) : Int := if 24 < r.length then 2 else cvGo r
theorem cvGo_stop {z : Cr} {t : List Cr} {e : Int} (h : ckC z.curve = e) (h0 : e ≠ 0) : cvGo (z :: t) = e := by
  show (if _ then _ else _) = _
  rw [if_pos (by rw [h]; exact h0), h]
theorem cvGo_on {z : Cr} {t : List Cr} (h : ckC z.curve = 0) : cvGo (z :: t) = cvGo t := by
  show (if _ then _ else _) = _
  rw [if_neg (by rw [h]; simp)]
theorem cvGo_all : ∀ {l : List Cr}, cvGo l = 0 → ∀ z ∈ l, ckC z.curve = 0
  | [], _, _, hz => by cases hz
  | y :: t, h, z, hz => by
    unfold cvGo at h
    split at h
    · rename_i h0; exact absurd h h0
    · rename_i h0
      rcases List.mem_cons.1 hz with rfl | hz
      · exact Decidable.not_not.1 h0
      · exact cvGo_all h z hz
theorem sck_ok {r : List Cr} (h : sckR r = 0) : r.length ≤ 24 ∧ ∀ z ∈ r, ckC z.curve = 0 := by
  unfold sckR at h
  split at h
  · omega
  · exact ⟨by omega, cvGo_all h⟩
/-- pairs of different relays -/
def PrOk (n : Nat) (ps : List (Nat × Nat)) : Prop := ps.length ≤ 256 ∧ ∀ p ∈ ps, p.1 < n ∧ p.2 < n ∧ p.1 ≠ p.2
set_option maxRecDepth 100000 in
set_option maxHeartbeats 4000000 in
theorem scheck_any (RA : Option Addr) (rn rc : Nat) (r : List Ch) (PA : Option Addr) (pc : Nat) (ps : List (Nat × Nat)) (w : World) (hC : RdCh w w.heap.size RA rn r) (hrn : rn ≤ 9223372036854775807) (hP : RdE w w.heap.size PA ps.length ps) (hok : PrOk rn ps) :
    Calls Try.prog 72 #[.slice RA rn rc, .slice PA ps.length pc] w fun e w' => e = .returned (.int .i64 (sckR (r.map Ch.r))) ∧ Below w.heap.size w w' := by
  have HC := Lib.hid hC
  have HP := Lib.hid hP
  have HOK := Lib.hid hok
  have HN : Hid (r.length = rn) := Lib.hid hC.len
  have hpl := hok.1
  have HB0 := Lib.hid (Below.refl w.heap.size w)
  have HD : Hid (sckR (r.map Ch.r) = if 24 < rn then 2 else cvGo (r.map Ch.r)) := Lib.hid (by unfold sckR; rw [List.length_map, hC.len])
  clear hC hP hok
  go_enter Try.func72, Try.ntmps72
  by_cases h24 : 24 < rn
  · have h24I : (24 : Int) < (rn : Int) := by omega
    have HE : Hid (sckR (r.map Ch.r) = 2) := Lib.hid (by rw [HD.out, if_pos h24])
    go_wp2_with fail
    go_ret
    exact ⟨ret_int HE.out.symm, HB0.out⟩
  have h24I : ¬ (24 : Int) < (rn : Int) := by omega
  have hplI : ¬ (256 : Int) < (ps.length : Int) := by omega
  have HD0 : Hid (sckR (r.map Ch.r) = cvGo (r.map Ch.r)) := Lib.hid (by rw [HD.out, if_neg h24])
  go_wp2_with fail
  go_loopw [20] (fun i wr => ∃ k : Nat, k ≤ rn ∧ i = .int .i64 k ∧ Below w.heap.size w wr ∧ cvGo (r.map Ch.r) = cvGo ((r.drop k).map Ch.r)) (fun i _ => rn - (intOf i).toNat)
  case atStart => exact ⟨0, by omega, rfl, HB0.out, rfl⟩
  case round =>
    clear HB0
    obtain ⟨k, hk, rfl, hb, hf⟩ := hrel
    have HB := Lib.hid hb
    have HF := Lib.hid hf
    clear hb hf
    have HCW := Lib.hid (HC.out.up HB.out)
    by_cases hlt : k < rn
    · obtain ⟨z, hz⟩ : ∃ z, r[k]? = some z := ⟨_, List.getElem?_eq_getElem (by have := HN.out; omega)⟩
      obtain ⟨b, off, hA, hblt⟩ := HCW.out.form (by omega)
      subst hA
      obtain ⟨e0, e1, e2, e3, e4, e5⟩ := HCW.out.at_ hz
      have HZM := Lib.hid (HCW.out.zs z (List.mem_of_getElem? hz))
      have HDC : Hid ((r.drop k).map Ch.r = z.r :: (r.drop (k + 1)).map Ch.r) := Lib.hid (by rw [drop_cons hz]; rfl)
      have HK0 := Lib.hid ((Below.refl wr.heap.size wr).alloc (Nat.le_refl _) (.cells #[.string z.r.brk, .string z.r.branch, .string z.r.node, .slice z.A z.n z.c, .int .i64 z.r.pick, .int .i64 z.r.opn] 68))
      have HSB : Hid (Blk (wr.alloc (.cells #[.string z.r.brk, .string z.r.branch, .string z.r.node, .slice z.A z.n z.c, .int .i64 z.r.pick, .int .i64 z.r.opn] 68)) wr.heap.size 68 #[.string z.r.brk, .string z.r.branch, .string z.r.node, .slice z.A z.n z.c, .int .i64 z.r.pick, .int .i64 z.r.opn]) := Lib.hid (Blk.new wr _ _)
      have HB3 := Lib.hid (HB.out.trans (HK0.out.mono HB.out.size))
      have HZ3 := Lib.hid (((HZM.out.1).below HK0.out (Nat.le_refl _)).more HK0.out.size)
      have HZN := HZM.out.2
      obtain ⟨z0, z1, z2, z3, z4, z5, zf, zlt⟩ := Ch.box HSB.out
      have hkI : (k : Int) < (rn : Int) := by omega
      clear hz HZM
      go_wp2_with fail
      clear e0 e1 e2 e3 e4 e5
      generalize wr.alloc (.cells #[.string z.r.brk, .string z.r.branch, .string z.r.node, .slice z.A z.n z.c, .int .i64 z.r.pick, .int .i64 z.r.opn] 68) = W at *
      refine (checkC_any z.A z.n z.c z.r.curve W HZ3.out HZN).mono ?_
      generalize hcv : ckC z.r.curve = cv
      rintro e w6 ⟨rfl, hb6⟩
      have HCV := Lib.hid hcv
      have HB6 := Lib.hid (HB3.out.trans (hb6.mono HB3.out.size))
      clear hb6 hcv
      by_cases hv : cv = 0
      · subst hv
        go_wp2_with fail
        go_roundw
        case rel => exact ⟨k + 1, by omega, by go_num, HB6.out, by rw [HF.out, HDC.out, cvGo_on HCV.out]⟩
        case measure => simp [intOf]; omega
      · have HV := Lib.hid hv
        have hv' : (cv != 0) = true := by simpa using hv
        go_wp2_with fail
        go_ret
        exact ⟨ret_int (by rw [HD0.out, HF.out, HDC.out, cvGo_stop HCV.out HV.out]), HB6.out⟩
    · have hkk : rn = k := by omega
      subst hkk
      have HRES : Hid (sckR (r.map Ch.r) = 0) := Lib.hid (by rw [HD0.out, HF.out, List.drop_of_length_le (by have := HN.out; omega)]; rfl)
      have HPW := Lib.hid ((HP.out.below HB.out (Nat.le_refl _)).more HB.out.size)
      go_wp2_with fail
      go_loopw [33] (fun i wq => ∃ m : Nat, m ≤ ps.length ∧ i = .int .i64 m ∧ Below wr.heap.size wr wq) (fun i _ => ps.length - (intOf i).toNat)
      case atStart => exact ⟨0, by omega, rfl, Below.refl _ _⟩
      case round =>
        obtain ⟨m, hm, rfl, hb⟩ := hrel
        have HB2 := Lib.hid hb
        clear hb
        by_cases hltm : m < ps.length
        · obtain ⟨⟨xa, xb⟩, hx⟩ : ∃ x, ps[m]? = some x := ⟨_, List.getElem?_eq_getElem hltm⟩
          have hE := (HPW.out.below HB2.out (Nat.le_refl _)).more HB2.out.size
          obtain ⟨eb, eo, heA, heb⟩ := hE.form (by omega)
          subst heA
          obtain ⟨e0, e1⟩ := hE.at_ hx
          dsimp only at e0 e1
          obtain ⟨hxa, hxb, hxx⟩ := HOK.out.2 _ (List.mem_of_getElem? hx)
          dsimp only at hxa hxb hxx
          have hmI : (m : Int) < (ps.length : Int) := by omega
          have hI1 : (xa : Int) < (rn : Int) := by omega
          have hI2 : (xb : Int) < (rn : Int) := by omega
          have hI3 : ((xa : Int) == (xb : Int)) = false := by simp; omega
          have HBA := Lib.hid (HB2.out.alloc HB2.out.size (.cells #[.int .i64 xa, .int .i64 xb] 83))
          clear hE hx hxx
          go_wp2_with fail
          go_roundw
          case rel => exact ⟨m + 1, by omega, by go_num, HBA.out⟩
          case measure => simp [intOf]; omega
        · have hkk : m = ps.length := by omega
          subst hkk
          go_wp2_with fail
          go_ret
          exact ⟨ret_int HRES.out.symm, HB.out.trans (HB2.out.mono HB.out.size)⟩
end Go.Proofs.Ythedpegaelpbdaa
