/- The lengths of the shortest ways: reach. -/
import Derived.Test.YthedpegaelpbdaaV4
import Derived.Test.YthedpegaelpbdaaV2
import Derived.Deep.LoopGhost
import Derived.Deep.DeepCutAuto
namespace Go.Proofs.Ythedpegaelpbdaa
open Go.ChangeShapes Go.WideShapes Go.ChangeAt Go.RowKit
set_option linter.unusedVariables false
attribute [local go_sem ↓] execOp_call_val
attribute [local go_sem] callVal_func setCell_drewN alloc_drewN sEq_walk NetH.cells

theorem enter_zstep (args : Array Value) (w : World) : (callFunc 115 args).run Try.prog w = .ok (.enter 115 args) w :=
  callFunc_enter Try.func115 (by kernel_rfl) rfl args w
theorem RS.below {w w' : World} {B bn bf ba g : Nat} {h : NetH} {x : Net} {st : FS} (r : RS w B bn bf ba g h x st) (hb : Below w.heap.size w w') (hB : B ≤ w.heap.size) : RS w' B bn bf ba g h x st :=
  ⟨r.qn.below hb r.qn.lt, r.qf.below hb r.qf.lt, r.qa.below hb r.qa.lt, r.qg.below hb r.qg.lt, r.net.below hb hB, r.ok, r.bB, r.ne⟩
theorem RS.moved {w w' : World} {B bn bf ba ba' g : Nat} {h : NetH} {x : Net} {st : FS} (r : RS w B bn bf ba g h x st) (hb : Below w.heap.size w w') (hB : B ≤ w.heap.size) (hba : w.heap.size ≤ ba') (q : Blk w' ba' 4 #[.bool st.2]) : RS w' B bn bf ba' g h x st :=
  ⟨r.qn.below hb r.qn.lt, r.qf.below hb r.qf.lt, q, r.qg.below hb r.qg.lt, r.net.below hb hB, r.ok, ⟨r.bB.1, r.bB.2.1, by omega, r.bB.2.2.2⟩, ⟨r.ne.1, by have := r.qn.lt; omega, r.ne.2.2.1, by have := r.qf.lt; omega, r.ne.2.2.2.2.1, by have := r.qg.lt; omega⟩⟩
theorem RS.size {w : World} {B bn bf ba g : Nat} {h : NetH} {x : Net} {st : FS} (r : RS w B bn bf ba g h x st) : B ≤ w.heap.size := by have := r.qn.lt; have := r.bB.1; omega

theorem swPass_open {nodes : List ByteArray} {s : Sw} {r : List Sw} {st : FS} (h : s.opn = true) : swPass nodes (s :: r) st = swPass nodes r st := by
  show swPass nodes r (if s.opn then st else _) = _
  rw [if_pos h]
theorem swPass_shut {nodes : List ByteArray} {s : Sw} {r : List Sw} {st : FS} (h : s.opn = false) : swPass nodes (s :: r) st = swPass nodes r (hs 0 2 (ndIdx nodes s.a) (ndIdx nodes s.b) st) := by
  show swPass nodes r (if s.opn then st else _) = _
  rw [if_neg (by rw [h]; simp)]
theorem brPass_out {nodes wo : List ByteArray} {s : Br} {r : List Br} {st : FS} (h : wo.any (fun y => sEq s.name y) = true) : brPass nodes wo (s :: r) st = brPass nodes wo r st := by
  show brPass nodes wo r (if wo.any (fun y => sEq s.name y) then st else _) = _
  rw [if_pos h]
theorem brPass_in {nodes wo : List ByteArray} {s : Br} {r : List Br} {st : FS} (h : wo.any (fun y => sEq s.name y) = false) : brPass nodes wo (s :: r) st = brPass nodes wo r (hs (1000 * s.x) 2 (ndIdx nodes s.fr) (ndIdx nodes s.to) st) := by
  show brPass nodes wo r (if wo.any (fun y => sEq s.name y) then st else _) = _
  rw [if_neg (by rw [h]; simp)]
theorem RS.setAg {w : World} {B bn bf ba g : Nat} {h : NetH} {x : Net} {st : FS} (r : RS w B bn bf ba g h x st) (v : Bool) : RS (w.setCell ⟨ba, 0, none⟩ (.bool v)) B bn bf ba g h x (st.1, v) := by
  obtain ⟨n1, n2, n3, n4, n5, n6⟩ := r.ne
  exact ⟨r.qn.far (by simpa using n2) _, r.qf.far (by simpa using n4) _, r.qa.set_ 0 _, r.qg.far (by simpa using Ne.symm n6) _, r.net.below ((Below.refl B w).setCell (by simpa using r.bB.2.2.1) _) (Nat.le_refl _), r.ok, r.bB, r.ne⟩

set_option maxRecDepth 100000 in
set_option maxHeartbeats 4000000 in
theorem reach_any (h : NetH) (x : Net) (s : ByteArray) (V : Option Addr) (m mc : Nat) (wo : List ByteArray) (w : World) (r : RdNet w w.heap.size h x) (ok : NetOk x) (hs : s ∈ x.nodes) (hW : RdStr w w.heap.size V m wo) (hm : m ≤ 9223372036854775807) :
    Calls Try.prog 90 #[.agg h.cells, .string s, .slice V m mc] w fun e w' => ∃ g, e = .returned (.slice (some ⟨g, 0, none⟩) x.nodes.length x.nodes.length) ∧ w.heap.size ≤ g ∧ Blk w' g 3 (ints (reachR x s wo)).toArray ∧ Below w.heap.size w w' := by
  obtain ⟨A0, m0, c0, A1, m1, c1, A2, m2, c2, A3, m3, c3, A4, m4, c4, A5, m5, c5⟩ := h
  dsimp only [NetH.cells] at *
  have hN24 := ok.l0
  have hm0 : m0 = x.nodes.length := r.r0.1.symm
  subst hm0
  have HR0 := Lib.hid r
  have K0 : Below w.heap.size w ((w.alloc (.cells #[.slice A0 x.nodes.length c0, .slice A1 m1 c1, .slice A2 m2 c2, .slice A3 m3 c3, .slice A4 m4 c4, .slice A5 m5 c5] 29)).alloc (.cells #[.int .i64 (-1)] 3)) := ((Below.refl _ _).alloc (Nat.le_refl _) _).alloc (by simp) _
  have HK0 := Lib.hid K0
  have HQ0 : Hid (Blk ((w.alloc (.cells #[.slice A0 x.nodes.length c0, .slice A1 m1 c1, .slice A2 m2 c2, .slice A3 m3 c3, .slice A4 m4 c4, .slice A5 m5 c5] 29)).alloc (.cells #[.int .i64 (-1)] 3)) w.heap.size 29 #[.slice A0 x.nodes.length c0, .slice A1 m1 c1, .slice A2 m2 c2, .slice A3 m3 c3, .slice A4 m4 c4, .slice A5 m5 c5]) := Lib.hid ((Blk.new w _ _).alloc _)
  have HV0 : Hid (((w.alloc (.cells #[.slice A0 x.nodes.length c0, .slice A1 m1 c1, .slice A2 m2 c2, .slice A3 m3 c3, .slice A4 m4 c4, .slice A5 m5 c5] 29)).alloc (.cells #[.int .i64 (-1)] 3)).cell? ⟨w.heap.size + 1, 0, none⟩ = some (.int .i64 (-1))) := Lib.hid ((Blk.new_ (t := 3) (cs := #[.int .i64 (-1)]) (w := w.alloc (.cells #[.slice A0 x.nodes.length c0, .slice A1 m1 c1, .slice A2 m2 c2, .slice A3 m3 c3, .slice A4 m4 c4, .slice A5 m5 c5] 29)) (by simp)).cell 0)
  obtain ⟨hsi, hsl⟩ := ndIdx_ok hs
  have HSI := Lib.hid hsi
  have HSM := Lib.hid hs
  have HOK := Lib.hid ok
  have HF0 := Lib.hid (far0_ok hs)
  clear K0 r hsi ok hs
  go_enter Try.func90, Try.ntmps90
  go_wp2_with fail
  refine (repeat_int (-1) (w.heap.size + 1) x.nodes.length _ HV0.out (by omega)).mono ?_
  rintro e w1 ⟨g, rfl, hg, hqg, k1⟩
  have HK1 := Lib.hid (HK0.out.trans (k1.mono HK0.out.size))
  have hq1 := HQ0.out.below k1 HQ0.out.lt
  obtain ⟨y0, y1, y2, y3, y4, y5, nf, nlt⟩ := net_box (h := ⟨A0, x.nodes.length, c0, A1, m1, c1, A2, m2, c2, A3, m3, c3, A4, m4, c4, A5, m5, c5⟩) hq1
  have HQ1 := Lib.hid hq1
  have HQG := Lib.hid hqg
  have hgl := hqg.lt
  have hgc : w1.cell? ⟨g, ndIdx x.nodes s, none⟩ = some (.int .i64 (-1)) := by rw [hqg.cell]; simp [hsl]
  have hgf := hqg.frozen (ndIdx x.nodes s)
  have hg1 : w.heap.size + 1 < g := by simp at hg; omega
  clear hg hqg k1 hq1
  go_wp2_with fail
  have hw2 : RdStr (w1.alloc (.cells #[.slice (some ⟨g, 0, none⟩) x.nodes.length x.nodes.length] 61)).drew (w1.alloc (.cells #[.slice (some ⟨g, 0, none⟩) x.nodes.length x.nodes.length] 61)).drew.heap.size A0 x.nodes.length x.nodes :=
    (HR0.out.r0.below (below_drew (HK1.out.alloc HK1.out.size _)) (Nat.le_refl _)).more (by have := HK1.out.size; simp; omega)
  have HW2 := Lib.hid hw2
  clear hw2
  have hslI : ((ndIdx x.nodes s : Nat) : Int) < (x.nodes.length : Int) := by omega
  have hslI0 : (0 : Int) ≤ ((ndIdx x.nodes s : Nat) : Int) := by omega
  have hsl63 : x.nodes.length ≤ 9223372036854775807 := by omega
  have HQG2 : Hid (Blk (w1.setCell ⟨g, ndIdx x.nodes s, none⟩ (.int .i64 0)) g 3 (ints (far0 x s)).toArray) := Lib.hid (by
    have h1 := HQG.out.set_ (ndIdx x.nodes s) (.int .i64 0)
    have h2 : (List.replicate x.nodes.length (Value.int .i64 (-1))).toArray.setIfInBounds (ndIdx x.nodes s) (.int .i64 0) = (ints (far0 x s)).toArray := by
      simp only [ints, far0, List.map_set, List.map_replicate]
      simp only [List.setIfInBounds_toArray]
    rw [h2] at h1
    exact h1)
  generalize hsx : ndIdx x.nodes s = sx at *
  have HSX := Lib.hid hsx
  clear hsx
  go_cut [] (fun wc => wc = ((w1.setCell ⟨g, sx, none⟩ (.int .i64 0)).alloc (.cells #[.slice (some ⟨g, 0, none⟩) x.nodes.length x.nodes.length] 61)).drew)
  case first =>
    go_region_with (go_at_call 69; refine (index_str A0 x.nodes.length c0 x.nodes s _ HW2.out hsl63).mono ?_; rw [HSI.out]; rintro e w' ⟨rfl, rfl⟩)
    all_goals
      go_wp2_with fail
      go_meet
      case rel => rfl
  case rest =>
    subst hcut
    have hW1 := HK1.out.size
    have hRS : RS ((((w1.setCell ⟨g, sx, none⟩ (.int .i64 0)).alloc (.cells #[.slice (some ⟨g, 0, none⟩) x.nodes.length x.nodes.length] 61)).alloc (.cells #[.bool true] 4)).drew) w.heap.size w.heap.size w1.heap.size (w1.heap.size + 1) g ⟨A0, x.nodes.length, c0, A1, m1, c1, A2, m2, c2, A3, m3, c3, A4, m4, c4, A5, m5, c5⟩ x (far0 x s, true) :=
      ⟨((HQ1.out.far (by simp; omega) _).alloc _).alloc _, (Blk.new_ (by simp)).alloc _, Blk.new_ (by simp), (HQG2.out.alloc _).alloc _, HR0.out.below (below_drew ((((HK1.out).setCell (by simp; omega) _).alloc (by simp; omega) _).alloc (by simp; omega) _)) (Nat.le_refl _), HF0.out,
       ⟨Nat.le_refl _, by omega, by omega, by omega⟩, ⟨by omega, by omega, by omega, by omega, by omega, by omega⟩⟩
    have hB3 : Below w.heap.size w ((((w1.setCell ⟨g, sx, none⟩ (.int .i64 0)).alloc (.cells #[.slice (some ⟨g, 0, none⟩) x.nodes.length x.nodes.length] 61)).alloc (.cells #[.bool true] 4)).drew) :=
      below_drew ((((HK1.out).setCell (by simp; omega) _).alloc (by simp; omega) _).alloc (by simp; omega) _)
    have HRS := Lib.hid hRS
    have HB3 := Lib.hid hB3
    clear hRS hB3 y0 y1 y2 y3 y4 y5 nf nlt hgc hgf HW2
    go_wp2_with fail
    go_loopg [8] (msr (far0 x s) + 1) (fun n a8 wr => ∃ (ba : Nat) (far : List Int) (ag : Bool), a8 = .pointer (some ⟨ba, 0, none⟩) ∧ RS wr w.heap.size w.heap.size w1.heap.size ba g ⟨A0, x.nodes.length, c0, A1, m1, c1, A2, m2, c2, A3, m3, c3, A4, m4, c4, A5, m5, c5⟩ x (far, ag) ∧ Below w.heap.size w wr ∧ ((ag = true ∧ reachR x s wo = reachIt x wo n far ∧ msr far < n) ∨ (ag = false ∧ reachR x s wo = far)))
    case atStart => exact ⟨w1.heap.size + 1, far0 x s, true, rfl, HRS.out, HB3.out, .inl ⟨rfl, rfl, by omega⟩⟩
    case round =>
      clear HRS HB3 HQ1 HQG HQG2
      generalize hG : gk = G at *
      clear hG
      obtain ⟨ba, far, ag, rfl, hR, hbel, hcase⟩ := hrel
      have HR := Lib.hid hR
      have HBEL := Lib.hid hbel
      have hca : wr.cell? ⟨ba, 0, none⟩ = some (.bool ag) := hR.qa.cell 0
      have hfa := hR.qa.frozen 0
      have hfl := hR.qf.cell 0
      have hbal := hR.qa.lt
      have hbfl := hR.qf.lt
      have hsz := hbel.size
      clear hR hbel
      cases ag with
      | false =>
        have hreq : reachR x s wo = far := by rcases hcase with ⟨h1, _⟩ | ⟨_, h2⟩; cases h1; exact h2
        have HREQ := Lib.hid hreq
        clear hcase hreq
        go_wp2_with fail
        go_ret
        exact ⟨g, rfl, by omega, by rw [HREQ.out]; exact HR.out.qg, HBEL.out⟩
      | true =>
        have hreq : reachR x s wo = reachIt x wo G far ∧ msr far < G := by rcases hcase with ⟨_, h2⟩ | ⟨h1, _⟩; exact h2; cases h1
        have HREQ := Lib.hid hreq
        have HPK := Lib.hid (pass_ok HOK.out wo HR.out.ok)
        clear hcase hreq
        have hbb := HR.out.bB
        have hnn := HR.out.ne.2.1
        have HR1 := Lib.hid (HR.out.setAg false)
        have hB1 : Below w.heap.size w (wr.setCell ⟨ba, 0, none⟩ (.bool false)) := HBEL.out.setCell (by simpa using hbb.2.2.1) _
        have HBEL1 := Lib.hid hB1
        obtain ⟨y0, y1, y2, y3, y4, y5, nf, nlt⟩ := net_box HR1.out.qn
        dsimp only at y0 y1 y2 y3 y4 y5
        have HHP : Hid (pass x wo far = brPass x.nodes wo x.brs (swPass x.nodes x.sws (far, false))) := Lib.hid rfl
        clear hbb hB1 HR HBEL
        go_wp2_with fail
        generalize wr.setCell ⟨ba, 0, none⟩ (.bool false) = wr1 at *
        clear hca hfa hfl hbal hbfl y0 y1 y2 y3 y4 y5 nf nlt
        have hlen1 : Hid (x.sws.length = m1) := Lib.hid HR1.out.net.r1.1
        have hm1 : m1 ≤ 32 := by have := HOK.out.l1; have := hlen1.out; omega
        go_loopg [30] m1 (fun n i wq => ∃ (k : Nat) (st : FS), n + k ≤ m1 ∧ m1 ≤ n + k ∧ i = .int .i64 k ∧ RS wq w.heap.size w.heap.size w1.heap.size ba g ⟨A0, x.nodes.length, c0, A1, m1, c1, A2, m2, c2, A3, m3, c3, A4, m4, c4, A5, m5, c5⟩ x st ∧ Below w.heap.size w wq ∧ swPass x.nodes x.sws (far, false) = swPass x.nodes (x.sws.drop k) st)
        case atStart => exact ⟨0, (far, false), by omega, by omega, rfl, HR1.out, HBEL1.out, rfl⟩
        case round =>
          clear HR1 HBEL1
          obtain ⟨k, st, hk1, hk2, rfl, hR, hbel, hsw⟩ := hrel
          have HR := Lib.hid hR
          have HBEL := Lib.hid hbel
          have HSW := Lib.hid hsw
          have hsz := hbel.size
          obtain ⟨y0, y1, y2, y3, y4, y5, nf, nlt⟩ := net_box HR.out.qn
          dsimp only at y0 y1 y2 y3 y4 y5
          clear hR hbel hsw
          by_cases hlt : k < m1
          · obtain ⟨z, hz⟩ : ∃ z, x.sws[k]? = some z := ⟨_, List.getElem?_eq_getElem (by have := hlen1.out; omega)⟩
            obtain ⟨bz, oz, hA, hbz⟩ := HR.out.net.r1.form (by dsimp only; omega)
            dsimp only at hA
            subst hA
            obtain ⟨e0, e1, e2, e3, e4⟩ := HR.out.net.r1.at_ hz
            have hbzw : bz < wr.heap.size := by omega
            obtain ⟨ha, hb, _⟩ := HOK.out.sw z (List.mem_of_getElem? hz)
            have HZ := Lib.hid (drop_cons hz)
            clear hz
            cases ho : z.opn with
            | true =>
              have HO := Lib.hid ho
              go_wp2_with fail
              have HB5 := Lib.hid ((Below.refl wr.heap.size wr).alloc (Nat.le_refl _) (.cells #[.string z.name, .string z.a, .string z.b, .bool z.breaker, .bool true] 44))
              go_roundg (gk - 1)
              case measure => omega
              case rel => exact ⟨k + 1, st, by omega, by omega, by go_num, HR.out.below HB5.out hsz, HBEL.out.trans (HB5.out.mono hsz), by rw [HSW.out, HZ.out, swPass_open HO.out]⟩
            | false =>
              have HO := Lib.hid ho
              go_wp2_with fail
              have hB5 := (Below.refl wr.heap.size wr).alloc (Nat.le_refl _) (.cells #[.string z.name, .string z.a, .string z.b, .bool z.breaker, .bool false] 44)
              refine (zstep_any w.heap.size w.heap.size w1.heap.size ba g ⟨A0, x.nodes.length, c0, (some ⟨bz, oz, none⟩), m1, c1, A2, m2, c2, A3, m3, c3, A4, m4, c4, A5, m5, c5⟩ x st z.a z.b 0 _ (HR.out.below hB5 hsz) ha hb (by omega) (by omega) (by simp; omega) hN24).mono ?_
              rintro e w5 ⟨rfl, hR5, k5⟩
              have HR5 := Lib.hid hR5
              have HB5 := Lib.hid ((HBEL.out.trans (hB5.mono hsz)).trans k5)
              clear hR5 k5 hB5
              go_wp2_with fail
              go_roundg (gk - 1)
              case measure => omega
              case rel => exact ⟨k + 1, _, by omega, by omega, by go_num, HR5.out, HB5.out, by rw [HSW.out, HZ.out, swPass_shut HO.out]⟩
          · obtain rfl : m1 = k := by omega
            have hd : x.sws.drop m1 = [] := by rw [List.drop_eq_nil_iff]; have := hlen1.out; omega
            have hswr : swPass x.nodes x.sws (far, false) = st := by rw [HSW.out, hd]; rfl
            have HSR := Lib.hid hswr
            clear hd hswr
            go_wp2_with fail
            have hlen2 : Hid (x.brs.length = m2) := Lib.hid HR.out.net.r2.1
            have hm2 : m2 ≤ 24 := by have := HOK.out.l2; have := hlen2.out; omega
            clear y0 y1 y2 y3 y4 y5 nf nlt
            go_loopg [47] m2 (fun n i wq => ∃ (k : Nat) (st2 : FS), n + k ≤ m2 ∧ m2 ≤ n + k ∧ i = .int .i64 k ∧ RS wq w.heap.size w.heap.size w1.heap.size ba g ⟨A0, x.nodes.length, c0, A1, m1, c1, A2, m2, c2, A3, m3, c3, A4, m4, c4, A5, m5, c5⟩ x st2 ∧ Below w.heap.size w wq ∧ brPass x.nodes wo x.brs st = brPass x.nodes wo (x.brs.drop k) st2)
            case atStart => exact ⟨0, st, by omega, by omega, rfl, HR.out, HBEL.out, rfl⟩
            case round =>
              clear HR HBEL
              obtain ⟨k, st2, hk1, hk2, rfl, hR, hbel, hsw⟩ := hrel
              have HR := Lib.hid hR
              have HBEL := Lib.hid hbel
              have HBW := Lib.hid hsw
              have hsz := hbel.size
              obtain ⟨y0, y1, y2, y3, y4, y5, nf, nlt⟩ := net_box HR.out.qn
              dsimp only at y0 y1 y2 y3 y4 y5
              clear hR hbel hsw
              by_cases hlt : k < m2
              · obtain ⟨z, hz⟩ : ∃ z, x.brs[k]? = some z := ⟨_, List.getElem?_eq_getElem (by have := hlen2.out; omega)⟩
                obtain ⟨bz, oz, hA, hbz⟩ := HR.out.net.r2.form (by dsimp only; omega)
                dsimp only at hA
                subst hA
                obtain ⟨e0, e1, e2, e3, e4, e5, e6, e7, e8⟩ := HR.out.net.r2.at_ hz
                have hbzw : bz < wr.heap.size := by omega
                obtain ⟨ha, hb, _, hbad⟩ := HOK.out.br z (List.mem_of_getElem? hz)
                have hgd := Br.good hbad
                obtain ⟨hx1, hx2, _⟩ := hgd
                have HZ := Lib.hid (drop_cons hz)
                have hB5 := (Below.refl wr.heap.size wr).alloc (Nat.le_refl _) (.cells #[.string z.name, .string z.fr, .string z.to, .int .i64 z.x, .int .i64 z.tap, .int .i64 z.shift, .int .i64 z.limit, .int .i64 z.short, .int .i64 z.hold] 49)
                have HB5 := Lib.hid hB5
                have hWW := Lib.hid ((hW.below (HBEL.out.trans (hB5.mono hsz)) (Nat.le_refl _)).more (HBEL.out.trans (hB5.mono hsz)).size)
                clear hz hbad hB5
                go_wp2_with fail
                refine (contains_str V m mc wo z.name _ hWW.out hm).mono ?_
                cases ho : wo.any (fun y => sEq z.name y) with
                | true =>
                  have HO := Lib.hid ho
                  clear ho
                  rintro e w5 ⟨rfl, rfl⟩
                  go_wp2_with fail
                  go_roundg (gk - 1)
                  case measure => omega
                  case rel => exact ⟨k + 1, st2, by omega, by omega, by go_num, HR.out.below HB5.out hsz, HBEL.out.trans (HB5.out.mono hsz), by rw [HBW.out, HZ.out, brPass_out HO.out]⟩
                | false =>
                  have HO := Lib.hid ho
                  clear ho
                  rintro e w5 ⟨rfl, rfl⟩
                  go_wp2_with fail
                  refine (zstep_any w.heap.size w.heap.size w1.heap.size ba g ⟨A0, x.nodes.length, c0, A1, m1, c1, (some ⟨bz, oz, none⟩), m2, c2, A3, m3, c3, A4, m4, c4, A5, m5, c5⟩ x st2 z.fr z.to (1000 * z.x) _ (HR.out.below HB5.out hsz) ha hb (by omega) (by omega) (by simp; omega) hN24).mono ?_
                  rintro e w5 ⟨rfl, hR5, k5⟩
                  have HR5 := Lib.hid hR5
                  have HB6 := Lib.hid ((HBEL.out.trans (HB5.out.mono hsz)).trans k5)
                  clear hR5 k5
                  go_wp2_with fail
                  go_roundg (gk - 1)
                  case measure => omega
                  case rel => exact ⟨k + 1, _, by omega, by omega, by go_num, HR5.out, HB6.out, by rw [HBW.out, HZ.out, brPass_in HO.out]⟩
              · have hd : x.brs.drop k = [] := by rw [List.drop_eq_nil_iff]; have := hlen2.out; omega
                have hbwr : brPass x.nodes wo x.brs st = st2 := by rw [HBW.out, hd]; rfl
                have hps : pass x wo far = st2 := by rw [HHP.out, HSR.out, hbwr]
                have HPS := Lib.hid hps
                have hca : wr.cell? ⟨ba, 0, none⟩ = some (.bool st2.2) := HR.out.qa.cell 0
                have hbal := HR.out.qa.lt
                have hB6 := (Below.refl wr.heap.size wr).alloc (Nat.le_refl _) (.cells #[.bool st2.2] 4)
                have HB6 := Lib.hid hB6
                have HR6 := Lib.hid (HR.out.moved hB6 hsz (Nat.le_refl _) (Blk.new wr _ _))
                clear hd hbwr hps hB6
                go_wp2_with fail
                have hG1 : G = (G - 1) + 1 := by have := HREQ.out.2; omega
                have hit : reachR x s wo = if st2.2 then reachIt x wo (G - 1) st2.1 else st2.1 := by
                  rw [HREQ.out.1, hG1]
                  show (if (pass x wo far).2 then reachIt x wo (G - 1 + 1 - 1) (pass x wo far).1 else (pass x wo far).1) = _
                  rw [HPS.out, Nat.add_sub_cancel]
                have hch := HPK.out.2
                rw [HPS.out] at hch
                have hlow : st2.2 = true → msr st2.1 < msr far := by
                  intro h2
                  rcases hch with h3 | h3
                  · rw [h3] at h2; cases h2
                  · exact h3.1
                go_roundg (G - 1)
                case measure => omega
                case rel =>
                  refine ⟨wr.heap.size, st2.1, st2.2, rfl, HR6.out, HBEL.out.trans (HB6.out.mono hsz), ?_⟩
                  cases hag : st2.2 with
                  | true => exact .inl ⟨rfl, by rw [hit, if_pos hag], by have := hlow hag; have := HREQ.out.2; omega⟩
                  | false => exact .inr ⟨rfl, by rw [hit, if_neg (by rw [hag]; simp)]⟩
end Go.Proofs.Ythedpegaelpbdaa
