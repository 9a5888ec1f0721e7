/- choose.Proves: the walk of a proof that holds. -/
import Derived.Test.YthedpegaelpbdaaGX
import Derived.Test.YthedpegaelpbdaaGZ
import Derived.Test.YthedpegaelpbdaaGEf
import Derived.Test.YthedpegaelpbdaaGM
namespace Go.Proofs.Ythedpegaelpbdaa
open Go.ChangeShapes Go.WideShapes Go.ChangeAt Go.RowKit Go.Maps
set_option linter.unusedVariables false
attribute [local go_sem ↓] execOp_call_val
attribute [local go_sem] callVal_func setCell_drewN alloc_drewN sEq_walk NetH.cells

theorem proves1_any (x : Sw) (s : ByteArray) (g : Nat) (w : World) (hg : w.cell? ⟨g, 0, none⟩ = some (.string s)) :
    Calls Try.prog 42 (#[.agg #[.string x.name, .string x.a, .string x.b, .bool x.breaker, .bool x.opn]] ++ #[.pointer (some ⟨g, 0, none⟩)]) w fun e w' => e = .returned (.bool (sEq x.name s)) ∧ Below w.heap.size w w' := by
  have hlt := World.block_lt_of_cell? w ⟨g, 0, none⟩ hg
  show Calls Try.prog 42 #[.agg #[.string x.name, .string x.a, .string x.b, .bool x.breaker, .bool x.opn], .pointer (some ⟨g, 0, none⟩)] w _
  go_enter Try.func42, Try.ntmps42
  go_wp2_with fail
  go_ret
  exact ⟨rfl, (Below.refl _ _).alloc (Nat.le_refl _) _⟩
theorem enter_proves1 (args : Array Value) (w : World) : (callFunc 42 args).run Try.prog w = .ok (.enter 42 args) w :=
  callFunc_enter Try.func42 (by kernel_rfl) rfl args w
theorem proves2_any (x : Ed) (s : ByteArray) (g : Nat) (w : World) (hg : w.cell? ⟨g, 0, none⟩ = some (.string s)) :
    Calls Try.prog 46 (#[.agg #[.int .i64 x.a, .int .i64 x.b, .string x.name, .bool x.brk, .int .i64 x.fl]] ++ #[.pointer (some ⟨g, 0, none⟩)]) w fun e w' => e = .returned (.bool (sEq x.name s && x.brk)) ∧ Below w.heap.size w w' := by
  have hlt := World.block_lt_of_cell? w ⟨g, 0, none⟩ hg
  show Calls Try.prog 46 #[.agg #[.int .i64 x.a, .int .i64 x.b, .string x.name, .bool x.brk, .int .i64 x.fl], .pointer (some ⟨g, 0, none⟩)] w _
  cases hs : sEq x.name s with
  | false =>
    have HS := Lib.hid hs
    go_enter Try.func46, Try.ntmps46
    go_wp2_with fail
    go_ret
    exact ⟨rfl, (Below.refl _ _).alloc (Nat.le_refl _) _⟩
  | true =>
    have HS := Lib.hid hs
    go_enter Try.func46, Try.ntmps46
    go_wp2_with fail
    go_ret
    exact ⟨rfl, (Below.refl _ _).alloc (Nat.le_refl _) _⟩
theorem enter_proves2 (args : Array Value) (w : World) : (callFunc 46 args).run Try.prog w = .ok (.enter 46 args) w :=
  callFunc_enter Try.func46 (by kernel_rfl) rfl args w
/-- ways in memory -/
def RdWy (w : World) (V : Option Addr) (vn : Nat) (xs : List Wy) : Prop := xs.length = vn ∧ Rd w w.heap.size 1 V vn (xs.map Wy.v) ∧ ∀ z ∈ xs, ∃ A c, z.v = .slice A z.ss.length c ∧ RdStr w w.heap.size A z.ss.length z.ss
theorem RdWy.up {w w' : World} {V : Option Addr} {vn : Nat} {xs : List Wy} (h : RdWy w V vn xs) (hb : Below w.heap.size w w') : RdWy w' V vn xs :=
  ⟨h.1, (h.2.1.below hb (Nat.le_refl _)).more hb.size, fun z hz => by
    obtain ⟨A, c, h1, h2⟩ := h.2.2 z hz
    exact ⟨A, c, h1, (h2.below hb (Nat.le_refl _)).more hb.size⟩⟩
/-- what is asked of a set and its ways -/
structure PrfOk (x : Net) (p : Fp) (opens : List ByteArray) (ws : List (List ByteArray)) : Prop where
  cp : cpR x p = 0
  br : ∀ s ∈ opens, ∃ (i : Nat) (y : Sw), ix1 x s = (i : Int) ∧ x.sws[i]? = some y ∧ y.breaker = true ∧ y.opn = false
  nd : opens.Nodup
  sw : ∀ s ∈ opens, swOk x s
  iso : isoB x opens p = true
  len : ws.length = opens.length
  way : ∀ l ∈ ws, wgo (fdEs x [] p) l (fun v => (fdSrc x).getD v false) (fdPl x p) = true
  dis : ws.Pairwise fun w w' => ∀ nm ∈ w, nm ∈ w' → ∀ e ∈ fdEs x [] p, e.name = nm → e.brk = false
  few : ws.length ≤ 1000
  short : ∀ l ∈ ws, l.length ≤ 1000 ∧ ∀ s ∈ l, s.size ≤ 1000000
set_option maxRecDepth 100000 in
set_option maxHeartbeats 8000000 in
theorem proves_yes (h : NetH) (x : Net) (p : Fp) (O : Option Addr) (on oc : Nat) (opens : List ByteArray) (V : Option Addr) (vn vc : Nat) (xs : List Wy) (w : World) (hR : RdNet w w.heap.size h x) (hO : RdStr w w.heap.size O on opens) (hoc : on ≤ oc) (hV : RdWy w V vn xs) (hok : PrfOk x p opens (xs.map Wy.ss)) :
    Calls Try.prog 17 #[.agg h.cells, .agg #[.string p.branch, .int .i64 p.part], .slice O on oc, .slice V vn vc] w fun e w' => e = .returned (.tuple #[.bool true, .int .i64 0]) ∧ Below w.heap.size w w' := by
  obtain ⟨A0, n0, c0, A1, n1, c1, A2, n2, c2, A3, n3, c3, A4, n4, c4, A5, n5, c5⟩ := h
  dsimp only [NetH.cells] at *
  have HPO := Lib.hid hok
  have HON := Lib.hid hO.1
  have HVN := Lib.hid hV.1
  have honn : on ≤ 1000 := by have := hok.len; have := hok.few; have := hO.1; omega
  have hvnn : vn ≤ 1000 := by have := hok.few; rw [List.length_map, hV.1] at this; exact this
  have hvon : vn = on := by have := hok.len; rw [List.length_map, hV.1, hO.1] at this; exact this
  have HVO := Lib.hid hvon
  have HR := Lib.hid hR
  have HO := Lib.hid hO
  have HV := Lib.hid hV
  have HB0 : Hid (Below w.heap.size w ((w.alloc (.cells #[.slice A0 n0 c0, .slice A1 n1 c1, .slice A2 n2 c2, .slice A3 n3 c3, .slice A4 n4 c4, .slice A5 n5 c5] 29)).alloc (.cells #[.string p.branch, .int .i64 p.part] 31))) := Lib.hid (((Below.refl _ _).alloc (Nat.le_refl _) _).alloc (by simp) _)
  have HQ1 : Hid (Blk ((w.alloc (.cells #[.slice A0 n0 c0, .slice A1 n1 c1, .slice A2 n2 c2, .slice A3 n3 c3, .slice A4 n4 c4, .slice A5 n5 c5] 29)).alloc (.cells #[.string p.branch, .int .i64 p.part] 31)) w.heap.size 29 #[.slice A0 n0 c0, .slice A1 n1 c1, .slice A2 n2 c2, .slice A3 n3 c3, .slice A4 n4 c4, .slice A5 n5 c5]) := Lib.hid ((Blk.new w _ _).alloc _)
  have HQ3 : Hid (Blk ((w.alloc (.cells #[.slice A0 n0 c0, .slice A1 n1 c1, .slice A2 n2 c2, .slice A3 n3 c3, .slice A4 n4 c4, .slice A5 n5 c5] 29)).alloc (.cells #[.string p.branch, .int .i64 p.part] 31)) (w.heap.size + 1) 31 #[.string p.branch, .int .i64 p.part]) := Lib.hid (Blk.new_ (by simp))
  have hn1 : n1 ≤ 9223372036854775807 := hR.m1
  clear hR hO hV hok hvon
  go_enter Try.func17, Try.ntmps17
  go_wp2_with fail
  generalize (w.alloc (.cells #[.slice A0 n0 c0, .slice A1 n1 c1, .slice A2 n2 c2, .slice A3 n3 c3, .slice A4 n4 c4, .slice A5 n5 c5] 29)).alloc (.cells #[.string p.branch, .int .i64 p.part] 31) = W0 at *
  refine (checkPlace_any ⟨A0, n0, c0, A1, n1, c1, A2, n2, c2, A3, n3, c3, A4, n4, c4, A5, n5, c5⟩ x p W0 (HR.out.up HB0.out)).mono ?_
  rw [HPO.out.cp]
  rintro e w1 ⟨rfl, k1⟩
  have HB1 := Lib.hid (HB0.out.trans (k1.mono HB0.out.size))
  have HQ1 := Lib.hid (HQ1.out.below k1 HQ1.out.lt)
  have HQ3 := Lib.hid (HQ3.out.below k1 HQ3.out.lt)
  clear k1
  go_wp2_with fail
  go_loopw [33] (fun i wr => ∃ k : Nat, k ≤ on ∧ i = .int .i64 k ∧ Below w.heap.size w wr ∧ Blk wr w.heap.size 29 #[.slice A0 n0 c0, .slice A1 n1 c1, .slice A2 n2 c2, .slice A3 n3 c3, .slice A4 n4 c4, .slice A5 n5 c5] ∧ Blk wr (w.heap.size + 1) 31 #[.string p.branch, .int .i64 p.part]) (fun i _ => on - (intOf i).toNat)
  case atStart => exact ⟨0, by omega, rfl, HB1.out, HQ1.out, HQ3.out⟩
  case round =>
    clear HQ1 HQ3
    obtain ⟨k, hk, rfl, hb, hq1, hq3⟩ := hrel
    have HB := Lib.hid hb
    have HQ1 := Lib.hid hq1
    have HQ3 := Lib.hid hq3
    obtain ⟨y0, y1, y2, y3, y4, y5, nf, nlt⟩ := net_box (h := ⟨A0, n0, c0, A1, n1, c1, A2, n2, c2, A3, n3, c3, A4, n4, c4, A5, n5, c5⟩) hq1
    have p0 := hq3.cell 0
    have p1 := hq3.cell 1
    have HRw := Lib.hid (HR.out.up hb)
    have hRO := (HO.out.below hb (Nat.le_refl _)).more hb.size
    have hwo := hb.size
    clear hb hq1 hq3
    by_cases hlt : k < on
    · obtain ⟨s, hs⟩ : ∃ s, opens[k]? = some s := ⟨_, List.getElem?_eq_getElem (by have := HON.out; omega)⟩
      obtain ⟨bz, oz, rfl, hbz⟩ := hRO.form (by omega)
      have e0 := hRO.at_ hs
      have HSK := Lib.hid hs
      have hkI : (k : Int) < (on : Int) := by omega
      have HK := Lib.hid ((Below.refl wr.heap.size wr).alloc (Nat.le_refl _) (.cells #[.string s] 9))
      have HSB := Lib.hid (Blk.new wr 9 #[.string s])
      have HTK := Lib.hid (hRO.take (m := k) (by omega))
      clear hs hRO
      go_wp2_with fail
      have hss := HSB.out.cell 0
      have hnl : wr.heap.size < (wr.alloc (.cells #[.string s] 9)).heap.size := by simp
      generalize hWs : wr.alloc (.cells #[.string s] 9) = Ws at *
      have HWs := Lib.hid hWs
      clear hWs
      refine (indexFuncSw _ _ A1 n1 c1 x.sws (fun y => sEq y.name s) (fun w' => Below Ws.heap.size Ws w') enter_proves1
        (fun w' hb => ((HRw.out.up HK.out).up hb).r1) (fun z w' _ hb => (proves1_any z s wr.heap.size w' ((hb.cell (p := ⟨wr.heap.size, 0, none⟩) hnl).trans hss)).mono fun e w'' ⟨he, hb2⟩ => ⟨he, hb.trans (hb2.mono hb.size)⟩) hn1 Ws (Below.refl _ _)).mono ?_
      rintro e w2 ⟨rfl, hb2⟩
      obtain ⟨i, y, hi, hy, hbk, hop⟩ := HPO.out.br s (List.mem_of_getElem? HSK.out)
      rw [show idxGo (fun y : Sw => sEq y.name s) x.sws 0 = ix1 x s from rfl, hi]
      have HB2 := Lib.hid ((HB.out.trans (HK.out.mono hwo)).trans (hb2.mono (Nat.le_trans hwo HK.out.size)))
      have HQ12 := Lib.hid ((HQ1.out.below HK.out HQ1.out.lt).below hb2 (Nat.lt_of_lt_of_le HQ1.out.lt HK.out.size))
      have HQ32 := Lib.hid ((HQ3.out.below HK.out HQ3.out.lt).below hb2 (Nat.lt_of_lt_of_le HQ3.out.lt HK.out.size))
      have hss2 := (hb2.cell (p := ⟨wr.heap.size, 0, none⟩) hnl).trans hss
      have hrd := ((HRw.out.up HK.out).up hb2)
      have HT2 := Lib.hid ((HTK.out.below (HK.out.trans (hb2.mono HK.out.size)) (Nat.le_refl _)).more (Nat.le_trans HK.out.size hb2.size))
      obtain ⟨sb, so, hA1, hsb⟩ := hrd.r1.form (by have := hrd.r1.1; have := (List.getElem?_eq_some_iff.1 hy).1; dsimp only at *; omega)
      dsimp only at hA1
      subst hA1
      obtain ⟨g0, g1, g2, g3, g4⟩ := hrd.r1.at_ hy
      rw [hbk] at g3
      rw [hop] at g4
      have hiI : (i : Int) < (n1 : Int) := by have := hrd.r1.1; have := (List.getElem?_eq_some_iff.1 hy).1; dsimp only at *; omega
      have hi0 : ((i : Int) < 0) = False := by simp
      obtain ⟨z0, z1, z2, z3, z4, z5, zf, zlt⟩ := net_box (h := ⟨A0, n0, c0, some ⟨sb, so, none⟩, n1, c1, A2, n2, c2, A3, n3, c3, A4, n4, c4, A5, n5, c5⟩) HQ12.out
      have hnin : (opens.take k).any (fun y => sEq s y) = false := by
        rw [List.any_eq_false]
        intro y hy2 he
        have he2 := sEq_iff.1 he
        subst he2
        obtain ⟨m, hm⟩ := List.mem_iff_getElem?.1 hy2
        have hml := (List.getElem?_eq_some_iff.1 hm).1
        rw [List.length_take] at hml
        rw [List.getElem?_take_of_lt (by omega)] at hm
        have hs2 := HSK.out
        obtain ⟨l1, q1⟩ := List.getElem?_eq_some_iff.1 hm
        obtain ⟨l2, q2⟩ := List.getElem?_eq_some_iff.1 hs2
        exact absurd (q1.trans q2.symm) ((List.pairwise_iff_getElem.1 HPO.out.nd) m k l1 l2 (by omega))
      have HC : Hid (∀ N, Calls Try.prog 43 #[.slice (some ⟨bz, oz, none⟩) k oc, .string s] (w2.drewN N) fun e w' => e = .returned (.bool false) ∧ w' = w2.drewN N) := Lib.hid fun N => by
        have h0 : RdStr (w2.drewN N) (w2.drewN N).heap.size (some ⟨bz, oz, none⟩) k (opens.take k) := HT2.out
        exact (contains_str _ _ oc _ s _ h0 (by omega)).mono fun e w' ⟨he, hw⟩ => ⟨by rw [he, hnin], hw.symm⟩
      have hkoc : k ≤ oc := by omega
      have hkocI : (k : Int) ≤ (oc : Int) := by omega
      clear hrd hy hi hbk hop hb2 hnin y0 y1 y2 y3 y4 y5 nf nlt p0 p1 e0 hss
      go_wp2_with fail
      go_quiet ((go_at_call 43; exact (HC.out _).mono (fun _ _ hh => ⟨hh.1, _, hh.2⟩)))
      go_wp2_with fail
      go_roundw
      case rel => exact ⟨k + 1, by omega, by go_num, below_drewN HB2.out nq, HQ12.out.drewN nq, HQ32.out.drewN nq⟩
      case measure => simp [intOf]; omega
    · have hkk : k = on := by omega
      subst hkk
      have HRO := Lib.hid hRO
      have HOK := Lib.hid (netCk_ok (cp_net HPO.out.cp))
      have hvk : ((vn : Int) != (k : Int)) = false := by rw [HVO.out]; simp
      clear hRO
      go_wp2_with fail
      refine (isolated_any ⟨A0, n0, c0, A1, n1, c1, A2, n2, c2, A3, n3, c3, A4, n4, c4, A5, n5, c5⟩ x p O k oc opens wr HRw.out HRO.out (by omega)).mono ?_
      rintro e w2 ⟨k2, b, j, rfl, hcs⟩
      have hbj : b = true ∧ j = 0 := by
        rcases hcs with ⟨h1, _⟩ | ⟨_, ⟨s, h1, h2⟩, _⟩ | ⟨_, _, h1, h2⟩
        · exact absurd HPO.out.cp h1
        · exact absurd (HPO.out.sw s h1) h2
        · exact ⟨by rw [h1]; exact HPO.out.iso, h2⟩
      obtain ⟨rfl, rfl⟩ := hbj
      have HB2 := Lib.hid (HB.out.trans (k2.mono hwo))
      have hq12 := HQ1.out.below k2 HQ1.out.lt
      have hq32 := HQ3.out.below k2 HQ3.out.lt
      have HR2 := Lib.hid (HRw.out.up k2)
      have hw2 := HB2.out.size
      clear k2 hcs y0 y1 y2 y3 y4 y5 nf nlt p0 p1
      obtain ⟨y0, y1, y2, y3, y4, y5, nf, nlt⟩ := net_box (h := ⟨A0, n0, c0, A1, n1, c1, A2, n2, c2, A3, n3, c3, A4, n4, c4, A5, n5, c5⟩) hq12
      have p0 := hq32.cell 0
      have p1 := hq32.cell 1
      clear hq12 hq32
      go_wp2_with fail
      refine (fieldOf_any ⟨A0, n0, c0, A1, n1, c1, A2, n2, c2, A3, n3, c3, A4, n4, c4, A5, n5, c5⟩ x HOK.out none 0 0 [] p w2 HR2.out ⟨rfl, rfl, fun h => by omega⟩ (by omega)).mono ?_
      rintro e w3 ⟨k3, q, g, v, rfl, hq, hF⟩
      have HB3 := Lib.hid (HB2.out.trans (k3.mono hw2))
      have hwq : w.heap.size ≤ q := Nat.le_trans hw2 hq
      have hpl := fd_place HOK.out p
      have hsl : (fdSrc x).length ≤ 25 := by rw [fdSrc_len]; have := HOK.out.l0; omega
      have hel := fd_len HOK.out [] p
      have hmake := @run_makeMap Try.prog
      have HF3 := Lib.hid (hF.up ((Below.refl w3.heap.size w3).alloc (Nat.le_refl _) (.map #[] 0)))
      have HB4 := Lib.hid (HB3.out.alloc HB3.out.size (.map #[] 0))
      have HU4 := Lib.hid (UsedM.made w3)
      have hq3 : q < w3.heap.size := hF.qf.lt
      have hg3 : g < w3.heap.size := hF.qg.lt
      have HV3 : Hid (∀ r, v.ownBlock = some r → r < w3.heap.size) := Lib.hid (fun r hr => (hF.own.lt r hr).2)
      have hw3 := HB3.out.size
      clear k3 hF y0 y1 y2 y3 y4 y5 nf nlt p0 p1
      go_wp2_with fail
      clear hmake
      go_loopw [91] (fun i wr => ∃ (j cnt : Nat) (f : ByteArray → Option Int), j ≤ vn ∧ i = .int .i64 j ∧ Below w.heap.size w wr ∧ w3.heap.size ≤ wr.heap.size ∧ FdW wr q g (fdEs x [] p) (fdPl x p) v (fdSrc x) ∧ UsedM wr w3.heap.size cnt f ∧ cnt ≤ j * 1000 ∧ ∀ nm i', f nm = some i' → ∃ (m : Nat) (ss : List ByteArray), i' = (m : Int) ∧ m < j ∧ (xs.map Wy.ss)[m]? = some ss ∧ nm ∈ ss) (fun i _ => vn - (intOf i).toNat)
      case atStart => exact ⟨0, 0, _, by omega, rfl, HB4.out, by simp, HF3.out, HU4.out, by omega, fun nm i' h => by cases h⟩
      case round =>
        clear HB4 HF3 HU4
        obtain ⟨j, cnt, f, hj, rfl, hb, hsz, hF, hU, hcnt, hfn⟩ := hrel
        have HB5 := Lib.hid hb
        have HF5 := Lib.hid hF
        have HU5 := Lib.hid hU
        have HFN := Lib.hid hfn
        have HVw := Lib.hid (HV.out.up hb)
        clear hb hF hU hfn
        by_cases hjl : j < vn
        · obtain ⟨z, hz⟩ : ∃ z, xs[j]? = some z := ⟨_, List.getElem?_eq_getElem (by have := HVN.out; omega)⟩
          obtain ⟨zA, zc, hzv, hzr0⟩ := HV.out.2.2 z (List.mem_of_getElem? hz)
          have HZ0 := Lib.hid hzr0
          have hzr := (hzr0.below HB5.out (Nat.le_refl _)).more HB5.out.size
          obtain ⟨vb, vo, hV, hvb, hvc⟩ := HVw.out.2.1.2 (by omega)
          subst hV
          have hv0 : _ := hvc j (.slice zA z.ss.length zc) (by rw [List.getElem?_map, hz]; simp [hzv])
          have hzs : (xs.map Wy.ss)[j]? = some z.ss := by rw [List.getElem?_map, hz]; rfl
          have HZS := Lib.hid hzs
          have hzm := List.mem_of_getElem? hzs
          have hway := HPO.out.way z.ss hzm
          have hsh := HPO.out.short z.ss hzm
          have hzl := hsh.1
          have HSH := Lib.hid hsh.2
          have HZR := Lib.hid hzr
          have hjI : (j : Int) < (vn : Int) := by omega
          clear hz hzv hzr hzr0 hvc hzs hzm hsh
          go_wp2_with fail
          refine (isWay_any q g (fdEs x [] p) (fdPl x p) v (fdSrc x) zA z.ss.length zc z.ss wr HF5.out HZR.out (fd_ok HOK.out [] p) hpl (by omega) (by omega) (by omega)).mono ?_
          rintro e w5 ⟨k5, rfl⟩
          rw [hway]
          have HB6 := Lib.hid (HB5.out.trans (k5.mono HB5.out.size))
          have HF6 := Lib.hid (HF5.out.up k5)
          have HU6 := Lib.hid (HU5.out.below k5)
          have hsz6 : w3.heap.size ≤ w5.heap.size := Nat.le_trans hsz k5.size
          clear k5 hway hv0
          go_wp2_with fail
          go_loopw [102] (fun i wr => ∃ (t cnt2 : Nat) (f2 : ByteArray → Option Int), t ≤ z.ss.length ∧ i = .int .i64 t ∧ Below w.heap.size w wr ∧ w3.heap.size ≤ wr.heap.size ∧ FdW wr q g (fdEs x [] p) (fdPl x p) v (fdSrc x) ∧ UsedM wr w3.heap.size cnt2 f2 ∧ cnt2 ≤ j * 1000 + t ∧ ∀ nm i', f2 nm = some i' → ∃ (m : Nat) (ss : List ByteArray), i' = (m : Int) ∧ m < j + 1 ∧ (xs.map Wy.ss)[m]? = some ss ∧ nm ∈ ss) (fun i _ => z.ss.length - (intOf i).toNat)
          case atStart => exact ⟨0, cnt, f, by omega, rfl, HB6.out, hsz6, HF6.out, HU6.out, by omega, fun nm i' h => by
            obtain ⟨m, ss, h1, h2, h3, h4⟩ := HFN.out nm i' h
            exact ⟨m, ss, h1, by omega, h3, h4⟩⟩
          case round =>
            clear HB6 HF6 HU6
            obtain ⟨t, cnt2, f2, ht, rfl, hb, hsz7, hF, hU, hcnt2, hfn⟩ := hrel
            have HB7 := Lib.hid hb
            have HF7 := Lib.hid hF
            have HU7 := Lib.hid hU
            have HFN2 := Lib.hid hfn
            have HZR7 := Lib.hid ((HZ0.out.below HB7.out (Nat.le_refl _)).more HB7.out.size)
            clear hb hF hU hfn
            by_cases htl : t < z.ss.length
            · obtain ⟨s, hs⟩ : ∃ s, z.ss[t]? = some s := ⟨_, List.getElem?_eq_getElem htl⟩
              obtain ⟨sb, so, hzA, hsb⟩ := HZR7.out.form (by omega)
              have hz7 := HZR7.out
              rw [hzA] at hz7
              have e0 := hz7.at_ hs
              subst hzA
              have hms := List.mem_of_getElem? hs
              have hszs := HSH.out s hms
              have HMS := Lib.hid hms
              have htI : (t : Int) < (z.ss.length : Int) := by omega
              have HK := Lib.hid ((Below.refl wr.heap.size wr).alloc (Nat.le_refl _) (.cells #[.string s] 9))
              have HSB := Lib.hid (Blk.new wr 9 #[.string s])
              have HF8 := Lib.hid (HF7.out.up HK.out)
              have f0 := HF8.out.qf.cell 0
              have hq8 := HF8.out.qf.lt
              obtain ⟨vA, vcap, hvv, hI⟩ := HF8.out.is
              subst hvv
              have HI := Lib.hid hI
              clear hs hms hz7 hI
              go_wp2_with fail
              have hss : (wr.alloc (.cells #[.string s] 9)).cell? ⟨wr.heap.size, 0, none⟩ = some (.string s) := HSB.out.cell 0
              have hnl : wr.heap.size < (wr.alloc (.cells #[.string s] 9)).heap.size := by simp
              have hsz8 : wr.heap.size ≤ (wr.alloc (.cells #[.string s] 9)).heap.size := by simp
              have HU8 := Lib.hid (HU7.out.below HK.out)
              have HB8 := Lib.hid (HB7.out.trans (HK.out.mono HB7.out.size))
              clear HK HSB f0 e0
              generalize hsbx : wr.heap.size = bx at *
              generalize wr.alloc (.cells #[.string s] 9) = Ws at *
              have HBX := Lib.hid hsbx
              clear hsbx
              refine (containsFuncEd _ _ vA (fdEs x [] p).length vcap (fdEs x [] p) (fun e => sEq e.name s && e.brk) (fun w' => Below Ws.heap.size Ws w') enter_proves2
                (fun w' hb => (HI.out.up hb).eds) (fun e w' _ hb => (proves2_any e s bx w' ((hb.cell (p := ⟨bx, 0, none⟩) hnl).trans hss)).mono fun e w'' ⟨he, hb2⟩ => ⟨he, hb.trans (hb2.mono hb.size)⟩) (by omega) Ws (Below.refl _ _)).mono ?_
              rintro e w8 ⟨rfl, hb8⟩
              generalize hbb : (fdEs x [] p).any (fun e => sEq e.name s && e.brk) = bb
              have HBB := Lib.hid hbb
              have HB9 := Lib.hid (HB8.out.trans (hb8.mono HB8.out.size))
              have HF9 := Lib.hid (HF8.out.up hb8)
              have hU9 := HU8.out.below hb8
              have hml9 := hU9.lt
              obtain ⟨D, hown, hmap, hat⟩ := hU9
              have HOWN := Lib.hid hown
              have HMAP := Lib.hid hmap
              have HAT := Lib.hid hat
              have hss9 := (hb8.cell (p := ⟨bx, 0, none⟩) hnl).trans hss
              have hsz9 : w3.heap.size ≤ w8.heap.size := Nat.le_trans (by omega) hb8.size
              have HKEY := Lib.hid (WideMaps.keyOf_string_mk (P := Try.prog) Try.underlying9 (s := s) (by simp only [maxLen]; omega))
              have hwf : (Lit.int .i64 (j : Int)).wf = true := WalkArith.wf_i64 (by omega)
              clear hb8 hbb hown hmap hat hss
              cases bb with
              | false =>
                go_wp2_with (first | (at_lookup; refine wpList_lookup_own_ok_int _ rfl (.tmp 113) (.tmp 114) 99 rfl 9 3 .i64 law_str Try.underlying99 Try.underlying3 (zero_int _) w3.heap.size cnt2 D rfl HOWN.out _ _ rfl HKEY.out ?_; intro cc hcat hcwf) | (at_mapUpdate; refine wpList_mapUpdate_own _ rfl (.tmp 127) (.tmp 128) (.tmp 129) 99 rfl 9 3 law_str Try.underlying99 _ w3.heap.size cnt2 D rfl HOWN.out (by unfold maxLen; omega) _ _ _ rfl rfl HKEY.out _ [] (plainElem_int Try.underlying3 hwf) ?_; intro w9 hown9 hg9))
                have HB10 := Lib.hid (below_grown HB9.out hg9 (Nat.le_refl _) (fun r hr => by injection hr with hr; omega))
                have HF10 := Lib.hid (HF9.out.grown hg9 (fun e => by injection e with e; omega) (fun e => by injection e with e; omega) (.inr (fun e => by have := HV3.out _ e; omega)))
                have HU10 := Lib.hid (UsedM.put s (j : Int) hown9 HMAP.out HAT.out)
                have hsz10 : w3.heap.size ≤ w9.heap.size := Nat.le_trans hsz9 hg9.size
                clear hown9 hg9
                go_wp2_with fail
                go_roundw
                case rel => exact ⟨t + 1, cnt2 + 1, _, by omega, by go_num, HB10.out, hsz10, HF10.out, HU10.out, by omega, fun nm i' h => by
                    by_cases hns : nm = s
                    · subst hns
                      rw [if_pos rfl] at h
                      injection h with h
                      exact ⟨j, z.ss, h.symm, by omega, HZS.out, HMS.out⟩
                    · rw [if_neg hns] at h
                      exact HFN2.out nm i' h⟩
                case measure => simp [intOf]; omega
              | true =>
                cases hfs : f2 s with
                | none =>
                  have hhas : Maps.has D (.string s.data.toList) = false := by rw [(HAT.out s).1, hfs]; rfl
                  clear hfs
                  go_wp2_with (first | (at_lookup; refine wpList_lookup_own_ok_int _ rfl (.tmp 113) (.tmp 114) 99 rfl 9 3 .i64 law_str Try.underlying99 Try.underlying3 (zero_int _) w3.heap.size cnt2 D rfl HOWN.out _ _ rfl HKEY.out ?_; intro cc hcat hcwf) | (at_mapUpdate; refine wpList_mapUpdate_own _ rfl (.tmp 127) (.tmp 128) (.tmp 129) 99 rfl 9 3 law_str Try.underlying99 _ w3.heap.size cnt2 D rfl HOWN.out (by unfold maxLen; omega) _ _ _ rfl rfl HKEY.out _ [] (plainElem_int Try.underlying3 hwf) ?_; intro w9 hown9 hg9))
                  have HB10 := Lib.hid (below_grown HB9.out hg9 (Nat.le_refl _) (fun r hr => by injection hr with hr; omega))
                  have HF10 := Lib.hid (HF9.out.grown hg9 (fun e => by injection e with e; omega) (fun e => by injection e with e; omega) (.inr (fun e => by have := HV3.out _ e; omega)))
                  have HU10 := Lib.hid (UsedM.put s (j : Int) hown9 HMAP.out HAT.out)
                  have hsz10 : w3.heap.size ≤ w9.heap.size := Nat.le_trans hsz9 hg9.size
                  clear hown9 hg9
                  go_wp2_with fail
                  go_roundw
                  case rel => exact ⟨t + 1, cnt2 + 1, _, by omega, by go_num, HB10.out, hsz10, HF10.out, HU10.out, by omega, fun nm i' h => by
                      by_cases hns : nm = s
                      · subst hns
                        rw [if_pos rfl] at h
                        injection h with h
                        exact ⟨j, z.ss, h.symm, by omega, HZS.out, HMS.out⟩
                      · rw [if_neg hns] at h
                        exact HFN2.out nm i' h⟩
                  case measure => simp [intOf]; omega
                | some i' =>
                  have hhas : Maps.has D (.string s.data.toList) = true := by rw [(HAT.out s).1, hfs]; rfl
                  have hval := (HAT.out s).2 i' hfs
                  have hij : i' = (j : Int) := by
                    obtain ⟨m, ss, h1, h2, h3, h4⟩ := HFN2.out s i' hfs
                    rcases Nat.lt_or_ge m j with hmj | hmj
                    · exfalso
                      obtain ⟨e, he, hep⟩ := List.any_eq_true.1 HBB.out
                      simp only [Bool.and_eq_true] at hep
                      obtain ⟨l1, q1⟩ := List.getElem?_eq_some_iff.1 h3
                      obtain ⟨l2, q2⟩ := List.getElem?_eq_some_iff.1 HZS.out
                      have hd := (List.pairwise_iff_getElem.1 HPO.out.dis) m j l1 l2 hmj s (by rw [q1]; exact h4) (by rw [q2]; exact HMS.out) e he (sEq_iff.1 hep.1)
                      rw [hep.2] at hd; cases hd
                    · have : m = j := by omega
                      rw [h1, this]
                  subst hij
                  have HVAL := Lib.hid hval
                  have hjj : ((j : Int) != (j : Int)) = false := by simp
                  clear hfs hval
                  go_wp2_with (first | (at_lookup; refine wpList_lookup_own_ok_int _ rfl (.tmp 113) (.tmp 114) 99 rfl 9 3 .i64 law_str Try.underlying99 Try.underlying3 (zero_int _) w3.heap.size cnt2 D rfl HOWN.out _ _ rfl HKEY.out ?_; intro cc hcat hcwf; have hcc : cc = (j : Int) := (by have h := HVAL.out; rw [hcat] at h; injection h with h; injection h with h1 h2); subst hcc) | (at_mapUpdate; refine wpList_mapUpdate_own _ rfl (.tmp 127) (.tmp 128) (.tmp 129) 99 rfl 9 3 law_str Try.underlying99 _ w3.heap.size cnt2 D rfl HOWN.out (by unfold maxLen; omega) _ _ _ rfl rfl HKEY.out _ [] (plainElem_int Try.underlying3 hwf) ?_; intro w9 hown9 hg9))
                  have HB10 := Lib.hid (below_grown HB9.out hg9 (Nat.le_refl _) (fun r hr => by injection hr with hr; omega))
                  have HF10 := Lib.hid (HF9.out.grown hg9 (fun e => by injection e with e; omega) (fun e => by injection e with e; omega) (.inr (fun e => by have := HV3.out _ e; omega)))
                  have HU10 := Lib.hid (UsedM.put s (j : Int) hown9 HMAP.out HAT.out)
                  have hsz10 : w3.heap.size ≤ w9.heap.size := Nat.le_trans hsz9 hg9.size
                  clear hown9 hg9
                  go_wp2_with fail
                  go_roundw
                  case rel => exact ⟨t + 1, cnt2 + 1, _, by omega, by go_num, HB10.out, hsz10, HF10.out, HU10.out, by omega, fun nm i' h => by
                      by_cases hns : nm = s
                      · subst hns
                        rw [if_pos rfl] at h
                        injection h with h
                        exact ⟨j, z.ss, h.symm, by omega, HZS.out, HMS.out⟩
                      · rw [if_neg hns] at h
                        exact HFN2.out nm i' h⟩
                  case measure => simp [intOf]; omega
            · have htt : t = z.ss.length := by omega
              subst htt
              go_wp2_with fail
              go_roundw
              case rel => exact ⟨j + 1, cnt2, f2, by omega, by go_num, HB7.out, hsz7, HF7.out, HU7.out, by omega, HFN2.out⟩
              case measure => simp [intOf]; omega
        · go_wp2_with fail
          go_ret2
          exact ⟨rfl, HB5.out⟩
end Go.Proofs.Ythedpegaelpbdaa
