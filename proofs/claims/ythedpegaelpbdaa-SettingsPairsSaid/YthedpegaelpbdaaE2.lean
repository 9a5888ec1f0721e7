/- fault.Check: the walk. -/
import Derived.Test.YthedpegaelpbdaaE1
import Derived.Test.YthedpegaelpbdaaN5
namespace Go.Proofs.Ythedpegaelpbdaa
open Go.ChangeShapes Go.WideShapes Go.ChangeAt Go.RowKit Go.Joins Go.Deep
set_option linter.unusedVariables false
attribute [local go_sem ↓] execOp_call_val
attribute [local go_sem] callVal_func setCell_drewN alloc_drewN sEq_walk NetH.cells

/-- the first thing that is wrong with the sources -/
def fsGo (x : Net) (seen : List Fs) : List Fs → Int
  | [] => 0
  | s :: t => if (x.gns.any fun g => sEq g.name s.gen) = false then 6 else if (seen.any fun y => sEq y.gen s.gen) = true then 7 else if s.x < 1 ∨ 10000 < s.x then 4 else fsGo x (seen ++ [s]) t
theorem fsGo_on {x : Net} {seen : List Fs} {s : Fs} {t : List Fs} (h1 : (x.gns.any fun g => sEq g.name s.gen) = true) (h2 : (seen.any fun y => sEq y.gen s.gen) = false) (h3 : ¬ s.x < 1) (h4 : ¬ 10000 < s.x) : fsGo x seen (s :: t) = fsGo x (seen ++ [s]) t := by
  show (if _ then _ else _) = _
  rw [if_neg (by rw [h1]; simp), if_neg (by rw [h2]; simp), if_neg (by omega)]
def fckR (x : Net) (l : List Fs) : Int := if netCk x ≠ 0 then netCk x else fsGo x [] l
theorem take_snoc {α : Type} {l : List α} {k : Nat} {x : α} (h : l[k]? = some x) : l.take (k + 1) = l.take k ++ [x] := by rw [List.take_add_one, h]; rfl
set_option maxRecDepth 100000 in
set_option maxHeartbeats 4000000 in
theorem fcheck_any (h : NetH) (x : Net) (A : Option Addr) (n c : Nat) (l : List Fs) (w : World) (hR : RdNet w w.heap.size h x) (hL : RdFs w w.heap.size A n l) (hnc : n ≤ c) (hn : n ≤ 9223372036854775807) :
    Calls Try.prog 94 #[.agg h.cells, .slice A n c] w fun e w' => e = .returned (.int .i64 (fckR x l)) ∧ Below w.heap.size w w' := by
  obtain ⟨A0, n0, c0, A1, n1, c1, A2, n2, c2, A3, n3, c3, A4, n4, c4, A5, n5, c5⟩ := h
  dsimp only [NetH.cells] at *
  have HB0 : Hid (Below w.heap.size w (w.alloc (.cells #[.slice A0 n0 c0, .slice A1 n1 c1, .slice A2 n2 c2, .slice A3 n3 c3, .slice A4 n4 c4, .slice A5 n5 c5] 29))) := Lib.hid ((Below.refl _ _).alloc (Nat.le_refl _) _)
  have HQ0 : Hid (Blk (w.alloc (.cells #[.slice A0 n0 c0, .slice A1 n1 c1, .slice A2 n2 c2, .slice A3 n3 c3, .slice A4 n4 c4, .slice A5 n5 c5] 29)) w.heap.size 29 #[.slice A0 n0 c0, .slice A1 n1 c1, .slice A2 n2 c2, .slice A3 n3 c3, .slice A4 n4 c4, .slice A5 n5 c5]) := Lib.hid (Blk.new w _ _)
  have HR := Lib.hid (hR.up HB0.out)
  have HL := Lib.hid (hL.up HB0.out)
  have HN : Hid (l.length = n) := Lib.hid hL.1
  have HM3 : Hid (n3 ≤ 9223372036854775807) := Lib.hid hR.m3
  have HD : Hid (fckR x l = if netCk x ≠ 0 then netCk x else fsGo x [] l) := Lib.hid rfl
  clear hR hL
  obtain ⟨y0, y1, y2, y3, y4, y5, nf, nlt⟩ := net_box (h := ⟨A0, n0, c0, A1, n1, c1, A2, n2, c2, A3, n3, c3, A4, n4, c4, A5, n5, c5⟩) HQ0.out
  go_enter Try.func94, Try.ntmps94
  go_wp2_with fail
  generalize w.alloc (.cells #[.slice A0 n0 c0, .slice A1 n1 c1, .slice A2 n2 c2, .slice A3 n3 c3, .slice A4 n4 c4, .slice A5 n5 c5] 29) = w1 at *
  clear y0 y1 y2 y3 y4 y5 nf nlt
  refine (check_any ⟨A0, n0, c0, A1, n1, c1, A2, n2, c2, A3, n3, c3, A4, n4, c4, A5, n5, c5⟩ x w1 HR.out).mono ?_
  generalize hck : netCk x = ck at HD
  rintro e w2 ⟨rfl, hb⟩
  have HCK := Lib.hid hck
  have HB2 := Lib.hid (HB0.out.trans (hb.mono HB0.out.size))
  have HQ2 := Lib.hid (HQ0.out.below hb HQ0.out.lt)
  have HR2 := Lib.hid (HR.out.up hb)
  have HL2 := Lib.hid (HL.out.up hb)
  clear hb hck
  by_cases h0 : ck = 0
  · subst h0
    have HD0 : Hid (fckR x l = fsGo x [] l) := Lib.hid (by rw [HD.out, if_neg (by simp)])
    go_wp2_with fail
    go_loopw [15] (fun i wr => ∃ k : Nat, k ≤ n ∧ i = .int .i64 k ∧ Below w2.heap.size w2 wr ∧ fsGo x [] l = fsGo x (l.take k) (l.drop k)) (fun i _ => n - (intOf i).toNat)
    case atStart => exact ⟨0, by omega, rfl, Below.refl _ _, rfl⟩
    case round =>
      obtain ⟨k, hk, rfl, hb, hf⟩ := hrel
      have HB := Lib.hid hb
      have HF := Lib.hid hf
      clear hb hf
      have HQ := Lib.hid (HQ2.out.below HB.out HQ2.out.lt)
      have HRW := Lib.hid (HR2.out.up HB.out)
      have HLW := Lib.hid (HL2.out.up HB.out)
      by_cases hlt : k < n
      · obtain ⟨s, hs⟩ : ∃ s, l[k]? = some s := ⟨_, List.getElem?_eq_getElem (by have := HN.out; omega)⟩
        obtain ⟨b, off, hA, hblt⟩ := HLW.out.form (by omega)
        subst hA
        obtain ⟨c0', c1'⟩ := HLW.out.at_ hs
        have HTS := Lib.hid (take_snoc hs)
        have HDC := Lib.hid (drop_cons hs)
        have HK0 := Lib.hid ((Below.refl wr.heap.size wr).alloc (Nat.le_refl _) (.cells #[.string s.gen, .int .i64 s.x] 189))
        have HQ3 := Lib.hid (HQ.out.alloc (.cells #[.string s.gen, .int .i64 s.x] 189))
        have HSB : Hid (Blk (wr.alloc (.cells #[.string s.gen, .int .i64 s.x] 189)) wr.heap.size 189 #[.string s.gen, .int .i64 s.x]) := Lib.hid (Blk.new wr _ _)
        have HR3 := Lib.hid (HRW.out.up HK0.out)
        have HL3 := Lib.hid (HLW.out.up HK0.out)
        have HB3 := Lib.hid (HB.out.trans (HK0.out.mono HB.out.size))
        obtain ⟨y0, y1, y2, y3, y4, y5, nf, nlt⟩ := net_box (h := ⟨A0, n0, c0, A1, n1, c1, A2, n2, c2, A3, n3, c3, A4, n4, c4, A5, n5, c5⟩) HQ3.out
        have hkI : (k : Int) < (n : Int) := by omega
        have hkc : (k : Int) ≤ (c : Int) := by omega
        clear hs
        go_wp2_with fail
        clear y0 y1 y2 y3 y4 y5 nf nlt c0' c1'
        generalize wr.alloc (.cells #[.string s.gen, .int .i64 s.x] 189) = w3 at *
        generalize wr.heap.size = sb at *
        refine (containsFuncGn _ _ A3 n3 c3 x.gns (fun y => sEq y.name s.gen) (fun w' => Below w3.heap.size w3 w') enter_fck1
          (fun w' hb => (HR3.out.up hb).r3) (fun z w' _ hb => (fck1_any z s.gen sb w' ((hb.cell (p := ⟨sb, 0, none⟩) HSB.out.lt).trans (HSB.out.cell 0))).mono fun e w'' ⟨he, hb2⟩ => ⟨he, hb.trans (hb2.mono hb.size)⟩) HM3.out w3 (Below.refl _ _)).mono ?_
        generalize hg : (x.gns.any fun y => sEq y.name s.gen) = bg
        rintro e w4 ⟨rfl, hb⟩
        have HGN := Lib.hid hg
        have HB4 := Lib.hid (HB3.out.trans (hb.mono HB3.out.size))
        have HS4 := Lib.hid (HSB.out.below hb HSB.out.lt)
        have HL4 := Lib.hid (HL3.out.up hb)
        have hs0 := HS4.out.cell 0
        have hs1 := HS4.out.cell 1
        clear hb hg
        cases bg with
        | false =>
          go_wp2_with fail
          go_ret
          exact ⟨ret_int (by rw [HD0.out, HF.out, HDC.out]; simp [fsGo, HGN.out]), HB2.out.trans (HB4.out.mono HB2.out.size)⟩
        | true =>
          have HLT := Lib.hid (HL4.out.take (m := k) (by omega))
          go_wp2_with fail
          refine (containsFuncFs _ _ _ k _ (l.take k) (fun y => sEq y.gen s.gen) (fun w' => Below w4.heap.size w4 w') enter_fck2
            (fun w' hb => HLT.out.up hb) (fun z w' _ hb => (fck2_any z s.gen sb w' ((hb.cell (p := ⟨sb, 0, none⟩) HS4.out.lt).trans (HS4.out.cell 0))).mono fun e w'' ⟨he, hb2⟩ => ⟨he, hb.trans (hb2.mono hb.size)⟩) (by omega) w4 (Below.refl _ _)).mono ?_
          generalize hg : ((l.take k).any fun y => sEq y.gen s.gen) = bt
          rintro e w5 ⟨rfl, hb⟩
          have HTW := Lib.hid hg
          have HB5 := Lib.hid (HB4.out.trans (hb.mono HB4.out.size))
          have HS5 := Lib.hid (HS4.out.below hb HS4.out.lt)
          have hs0 := HS5.out.cell 0
          have hs1 := HS5.out.cell 1
          clear hb hg
          cases bt with
          | true =>
            go_wp2_with fail
            go_ret
            exact ⟨ret_int (by rw [HD0.out, HF.out, HDC.out]; simp [fsGo, HGN.out, HTW.out]), HB2.out.trans (HB5.out.mono HB2.out.size)⟩
          | false =>
            by_cases hx1 : s.x < 1
            · go_wp2_with fail
              go_ret
              exact ⟨ret_int (by rw [HD0.out, HF.out, HDC.out]; simp [fsGo, HGN.out, HTW.out, hx1]), HB2.out.trans (HB5.out.mono HB2.out.size)⟩
            · by_cases hx2 : 10000 < s.x
              · go_wp2_with fail
                go_ret
                exact ⟨ret_int (by rw [HD0.out, HF.out, HDC.out]; simp [fsGo, HGN.out, HTW.out, hx2]), HB2.out.trans (HB5.out.mono HB2.out.size)⟩
              · go_wp2_with fail
                go_roundw
                case rel => exact ⟨k + 1, by omega, by go_num, HB5.out, by rw [HF.out, HDC.out, HTS.out, fsGo_on HGN.out HTW.out (by omega) (by omega)]⟩
                case measure => simp [intOf]; omega
      · have hkk : n = k := by omega
        subst hkk
        go_wp2_with fail
        go_ret
        exact ⟨ret_int (by rw [HD0.out, HF.out, List.drop_of_length_le (by have := HN.out; omega)]; rfl), HB2.out.trans (HB.out.mono HB2.out.size)⟩
  · have HH0 := Lib.hid h0
    have h0' : (ck != 0) = true := by simpa using h0
    go_wp2_with fail
    go_ret
    exact ⟨ret_int (by rw [HD.out, if_pos HH0.out]), HB2.out⟩
end Go.Proofs.Ythedpegaelpbdaa
