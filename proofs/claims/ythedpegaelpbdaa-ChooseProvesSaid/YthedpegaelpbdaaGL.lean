/- choose.least: the walk. -/
import Derived.Test.YthedpegaelpbdaaGD
import Derived.Test.YthedpegaelpbdaaGP
namespace Go.Proofs.Ythedpegaelpbdaa
open Go.ChangeShapes Go.WideShapes Go.ChangeAt Go.RowKit
set_option linter.unusedVariables false
attribute [local go_sem ↓] execOp_call_val
attribute [local go_sem] callVal_func setCell_drewN alloc_drewN NetH.cells

def lst (x : Net) (p : Fp) : Option (List Ed × List ByteArray) := leastR (fdSrc x) (fdSrc x).length (fdPl x p) (fdEs x [] p)
def LeastP (x : Net) (p : Fp) (w : World) (e : Ending) (w' : World) : Prop :=
  Below w.heap.size w w' ∧ ((lst x p = none ∧ Fl (fdEs x [] p) (fdSrc x) (fdSrc x).length (fdPl x p) (pushR (fdSrc x) (fdSrc x).length (fdPl x p) (1 + (fdEs x [] p).length) (fdEs x [] p)).1 (1 + (fdEs x [] p).length) ∧ e = .returned (.tuple #[.pointer none, .slice none 0 0, .bool false])) ∨
    ∃ es l q g v A c j, lst x p = some (es, l) ∧ e = .returned (.tuple #[.pointer (some ⟨q, 0, none⟩), .slice A l.length c, .bool true]) ∧ w.heap.size ≤ q ∧ FdW w' q g es (fdPl x p) v (fdSrc x) ∧ RdStr w' w'.heap.size A l.length l ∧
      Fl (fdEs x [] p) (fdSrc x) (fdSrc x).length (fdPl x p) es j ∧ j ≤ (fdEs x [] p).length ∧ (bfsR goR es (fdSrc x) (fdSrc x).length (fdPl x p)).2 < 0 ∧ l = borderR (bfsR goR es (fdSrc x) (fdSrc x).length (fdPl x p)).1 es ∧ l.length ≤ c)
theorem borderR_snoc (by_ : List Int) {es : List Ed} {k : Nat} {e : Ed} (h : es[k]? = some e) : borderR by_ (es.take (k + 1)) = borderR by_ (es.take k) ++ (if (e.brk && ((by_.getD e.a 0 == -1) != (by_.getD e.b 0 == -1))) = true then [e.name] else []) := by
  unfold borderR
  rw [List.take_add_one, h, List.filter_append, List.map_append]
  congr 1
  show ((List.filter _ [e]).map Ed.name) = _
  rw [List.filter_cons, List.filter_nil]
  split <;> rfl
theorem borderR_len (by_ : List Int) (es : List Ed) : (borderR by_ es).length ≤ es.length := by
  unfold borderR; rw [List.length_map]; exact List.length_filter_le _ _
theorem info_str' : (Try.prog.info? 9).map (fun i => (i.zero, i.size, i.bytes)) = some (some (.string ⟨#[]⟩), 1, 16) := by kernel_rfl
theorem rdStr_own' {w : World} {B e : Nat} {v : Value} {zs : List ByteArray} (h : w.ownsRow B e 1 v zs.length (strsV zs)) : ∃ A c, v = .slice A zs.length c ∧ RdStr w w.heap.size A zs.length zs ∧ zs.length ≤ c := by
  rcases h.2 with ⟨h1, h2⟩ | ⟨g, cap, cur, h1, h2, h3, h4⟩
  · exact ⟨none, 0, by rw [h1, h2], ⟨rfl, by simp [strsV], fun h0 => by omega⟩, by omega⟩
  · exact ⟨some ⟨g, 0, none⟩, cap, h1, rdStr_own (by rw [← h1]; exact h), h4.1⟩
set_option maxRecDepth 100000 in
set_option maxHeartbeats 8000000 in
theorem least_any (h : NetH) (x : Net) (ok : NetOk x) (p : Fp) (w : World) (hR : RdNet w w.heap.size h x) :
    Calls Try.prog 36 #[.agg h.cells, .agg #[.string p.branch, .int .i64 p.part]] w (LeastP x p w) := by
  have HP : Hid (∀ e w', LeastP x p w e w' = (Below w.heap.size w w' ∧ ((lst x p = none ∧ Fl (fdEs x [] p) (fdSrc x) (fdSrc x).length (fdPl x p) (pushR (fdSrc x) (fdSrc x).length (fdPl x p) (1 + (fdEs x [] p).length) (fdEs x [] p)).1 (1 + (fdEs x [] p).length) ∧ e = .returned (.tuple #[.pointer none, .slice none 0 0, .bool false])) ∨
    ∃ es l q g v A c j, lst x p = some (es, l) ∧ e = .returned (.tuple #[.pointer (some ⟨q, 0, none⟩), .slice A l.length c, .bool true]) ∧ w.heap.size ≤ q ∧ FdW w' q g es (fdPl x p) v (fdSrc x) ∧ RdStr w' w'.heap.size A l.length l ∧
      Fl (fdEs x [] p) (fdSrc x) (fdSrc x).length (fdPl x p) es j ∧ j ≤ (fdEs x [] p).length ∧ (bfsR goR es (fdSrc x) (fdSrc x).length (fdPl x p)).2 < 0 ∧ l = borderR (bfsR goR es (fdSrc x) (fdSrc x).length (fdPl x p)).1 es ∧ l.length ≤ c))) := Lib.hid fun _ _ => rfl
  have HB0 : Hid (Below w.heap.size w ((w.alloc (.cells h.cells 29)).alloc (.cells #[.string p.branch, .int .i64 p.part] 31))) := Lib.hid (((Below.refl _ _).alloc (Nat.le_refl _) _).alloc (by simp) _)
  have HR := Lib.hid hR
  have HOK := Lib.hid ok
  obtain ⟨i0, hi0, hi1, hi2, hi3⟩ := info_parts info_str'
  have HI0 := Lib.hid hi0
  have HI1 := Lib.hid hi1
  have HI2 := Lib.hid hi2
  have HI3 := Lib.hid hi3
  clear hR ok hi0 hi1 hi2 hi3
  go_enter Try.func36, Try.ntmps36
  go_wp2_with fail
  refine (fieldOf_any h x HOK.out none 0 0 [] p _ (HR.out.up HB0.out) ⟨rfl, rfl, fun h => by omega⟩ (by omega)).mono ?_
  rintro e w1 ⟨k1, q, g, v, rfl, hq, hF⟩
  have HB1 := Lib.hid (HB0.out.trans (k1.mono HB0.out.size))
  have hwq : w.heap.size ≤ q := Nat.le_trans HB0.out.size hq
  have HF := Lib.hid hF
  have hpl := fd_place HOK.out p
  have hsl : (fdSrc x).length ≤ 25 := by rw [fdSrc_len]; have := HOK.out.l0; omega
  have hel := fd_len HOK.out [] p
  clear k1 hF hq
  go_wp2_with fail
  refine (push_any q g (fdEs x [] p) (fdPl x p) v (fdSrc x) w1 HF.out (fd_ok HOK.out [] p) (fd_zero x [] p) hpl (by omega) (by omega)).mono ?_
  rintro e w2 ⟨k2, he2, hF2, j, hFl, hj1, hj2, hj3⟩
  have HLD : Hid (lst x p = if (pushR (fdSrc x) (fdSrc x).length (fdPl x p) (1 + (fdEs x [] p).length) (fdEs x [] p)).2 then some ((pushR (fdSrc x) (fdSrc x).length (fdPl x p) (1 + (fdEs x [] p).length) (fdEs x [] p)).1, borderR (bfsR goR (pushR (fdSrc x) (fdSrc x).length (fdPl x p) (1 + (fdEs x [] p).length) (fdEs x [] p)).1 (fdSrc x) (fdSrc x).length (fdPl x p)).1 (pushR (fdSrc x) (fdSrc x).length (fdPl x p) (1 + (fdEs x [] p).length) (fdEs x [] p)).1) else none) := Lib.hid rfl
  generalize hPR : pushR (fdSrc x) (fdSrc x).length (fdPl x p) (1 + (fdEs x [] p).length) (fdEs x [] p) = PR at *
  obtain ⟨es, b⟩ := PR
  dsimp only at *
  subst he2
  have HB2 := Lib.hid (below_grown HB1.out k2 (Nat.le_refl _) (fun r hr => by have := (HF.out.own.lt r hr).1; omega))
  have HF2 := Lib.hid hF2
  have HFL := Lib.hid hFl
  have HPR := Lib.hid hPR
  have HJ2 := Lib.hid hj2
  have HJ3 := Lib.hid hj3
  clear k2 hF2 hFl hPR hj2 hj3
  cases b with
  | false =>
    go_wp2_with fail
    go_ret3
    rw [HP.out]
    exact ⟨HB2.out, .inl ⟨by rw [HLD.out]; rfl, by rw [← HJ2.out (by first | rfl | trivial)]; exact HFL.out, rfl⟩⟩
  | true =>
    obtain ⟨A, c, hv, hI⟩ := HF2.out.is
    subst hv
    have HI := Lib.hid hI
    have HEO := Lib.hid (HFL.out.same.ok (fd_ok HOK.out [] p))
    have HEL : Hid (es.length = (fdEs x [] p).length) := Lib.hid HFL.out.same.1
    clear hI
    go_wp2_with fail
    refine (search_any q A c es (fdPl x p) (some ⟨g, 0, none⟩) (fdSrc x).length (fdSrc x) w2 HI.out HEO.out hpl (by omega) (by have := HEL.out; omega) (fun e he => by have := HFL.out.lim e he; omega)).mono ?_
    rintro e w3 ⟨k3, gq, he3, hgq, hbq⟩
    have HFD := Lib.hid (bfsR_found (src := fdSrc x) HEO.out hpl (go := goR))
    generalize hR : bfsR goR es (fdSrc x) (fdSrc x).length (fdPl x p) = R at *
    obtain ⟨by_, at_⟩ := R
    dsimp only at he3 hbq
    subst he3
    have HB3 := Lib.hid (HB2.out.trans (k3.mono HB2.out.size))
    have HF3 := Lib.hid (HF2.out.up k3)
    have HBQ := Lib.hid hbq
    have HRR := Lib.hid hR
    have hbyl : by_.length = (fdSrc x).length := by
      obtain ⟨vis, d, hb, _⟩ := HFD.out.ex
      exact hb.len
    have f0 := HF3.out.qf.cell 0
    have hplt := HF3.out.qf.lt
    have hw3 := HB3.out.size
    have hes : es.length ≤ 80 := by have := HEL.out; omega
    clear k3 hbq hR
    go_wp2_with fail
    go_loopw [29, 10] (fun i vo wr => ∃ k : Nat, k ≤ es.length ∧ i = .int .i64 k ∧ Below w3.heap.size w3 wr ∧ wr.ownsRow w3.heap.size 9 1 vo (borderR by_ (es.take k)).length (strsV (borderR by_ (es.take k)))) (fun i _ _ => es.length - (intOf i).toNat)
    case atStart => exact ⟨0, by omega, rfl, Below.refl _ _, World.ownsRow_nil _ _ _ _⟩
    case round =>
      obtain ⟨k, hk, rfl, hb, hown⟩ := hrel
      have HB := Lib.hid hb
      have HOW := Lib.hid hown
      clear hb hown f0
      by_cases hlt : k < es.length
      · obtain ⟨e, he⟩ : ∃ e, es[k]? = some e := ⟨_, List.getElem?_eq_getElem hlt⟩
        have hFw := HF3.out.up HB.out
        obtain ⟨A2, c2, hv, hI⟩ := hFw.is
        have hv' := Value.slice.inj hv
        obtain ⟨rfl, -, rfl⟩ := hv'
        obtain ⟨eb, eo, rfl, heb⟩ := hI.eds.form (by omega)
        obtain ⟨e0, e1, e2, e3, e4⟩ := hI.eds.at_ he
        obtain ⟨hea, heb2, hab⟩ := HEO.out e (List.mem_of_getElem? he)
        have hkI : (k : Int) < (es.length : Int) := by omega
        have hBQ := HBQ.out.below HB.out HBQ.out.lt
        have HSN := Lib.hid (borderR_snoc by_ he)
        have HBL := Lib.hid (borderR_len by_ (es.take k))
        have HBA := Lib.hid (HB.out.alloc HB.out.size (.cells #[.int .i64 e.a, .int .i64 e.b, .string e.name, .bool e.brk, .int .i64 e.fl] 104))
        have HOA := Lib.hid (HOW.out.alloc (.cells #[.int .i64 e.a, .int .i64 e.b, .string e.name, .bool e.brk, .int .i64 e.fl] 104))
        have hca : (wr.alloc (.cells #[.int .i64 e.a, .int .i64 e.b, .string e.name, .bool e.brk, .int .i64 e.fl] 104)).cell? ⟨gq, e.a, none⟩ = some (.int .i64 (by_.getD e.a 0)) := int_at (hBQ.alloc _) (by omega)
        have hcb : (wr.alloc (.cells #[.int .i64 e.a, .int .i64 e.b, .string e.name, .bool e.brk, .int .i64 e.fl] 104)).cell? ⟨gq, e.b, none⟩ = some (.int .i64 (by_.getD e.b 0)) := int_at (hBQ.alloc _) (by omega)
        have haI : (e.a : Int) < ((fdSrc x).length : Int) := by omega
        have hbI : (e.b : Int) < ((fdSrc x).length : Int) := by omega
        generalize by_.getD e.a 0 = za at *
        generalize by_.getD e.b 0 = zb at *
        clear hFw hv hI he hBQ
        cases hbk : e.brk with
        | false =>
          rw [hbk] at e3 HBA HOA hca hcb HSN
          go_wp2_with fail
          go_quiet (fail)
          go_wp2_with fail
          go_roundw
          case rel => exact ⟨k + 1, by omega, by go_num, below_drewN HBA.out nq, by rw [HSN.out]; simpa using own_below HOA.out (below_drewN (Below.refl _ _) nq)⟩
          case measure => simp [intOf]; omega
        | true =>
          rw [hbk] at e3 HBA HOA hca hcb HSN
          cases hx : ((za == -1) != (zb == -1)) with
          | false =>
            rw [hx] at HSN
            cases ha : (za == -1) with
            | true =>
              rw [ha] at hx
              have hb : (zb == -1) = true := by cases h : (zb == -1) <;> simp_all
              clear hx
              go_wp2_with fail
              go_quiet (fail)
              go_wp2_with fail
              go_roundw
              case rel => exact ⟨k + 1, by omega, by go_num, below_drewN HBA.out nq, by rw [HSN.out]; simpa using own_below HOA.out (below_drewN (Below.refl _ _) nq)⟩
              case measure => simp [intOf]; omega
            | false =>
              rw [ha] at hx
              have hb : (zb == -1) = false := by cases h : (zb == -1) <;> simp_all
              clear hx
              go_wp2_with fail
              go_quiet (fail)
              go_wp2_with fail
              go_roundw
              case rel => exact ⟨k + 1, by omega, by go_num, below_drewN HBA.out nq, by rw [HSN.out]; simpa using own_below HOA.out (below_drewN (Below.refl _ _) nq)⟩
              case measure => simp [intOf]; omega
          | true =>
            rw [hx] at HSN
            cases ha : (za == -1) with
            | true =>
              rw [ha] at hx
              have hb : (zb == -1) = false := by cases h : (zb == -1) <;> simp_all
              clear hx
              go_wp2_with fail
              go_quiet (fail)
              have HBq := Lib.hid (below_drewN HBA.out nq)
              have HOq := Lib.hid (own_below HOA.out (below_drewN (Below.refl _ _) nq))
              have n2 : ((wr.alloc (.cells #[.int .i64 e.a, .int .i64 e.b, .string e.name, .bool true, .int .i64 e.fl] 104)).drewN nq).cell? ⟨wr.heap.size, 2, none⟩ = some (.string e.name) := (Blk.new wr 104 #[.int .i64 e.a, .int .i64 e.b, .string e.name, .bool true, .int .i64 e.fl]).cell 2
              have hsz : w3.heap.size ≤ ((wr.alloc (.cells #[.int .i64 e.a, .int .i64 e.b, .string e.name, .bool true, .int .i64 e.fl] 104)).drewN nq).heap.size := HBq.out.size
              clear hca hcb e0 e1 e2 e3 e4
              generalize (wr.alloc (.cells #[.int .i64 e.a, .int .i64 e.b, .string e.name, .bool true, .int .i64 e.fl] 104)).drewN nq = W at *
              go_wp2_with (at_builtin; refine wpList_append_own_at _ rfl (.tmp 50) (.tmp 53) _ rfl w3.heap.size 9 i0 _ 1 16 Try.underlying22 HI0.out HI1.out HI2.out HI3.out rfl (by omega) u10 _ _ rfl (HOq.out.alloc _) ⟨_, 0, none⟩ 1 1 [.string e.name] rfl rfl (cell_one_new _ _ _) ?k1 ?k2 ?k3 ?k4 ?_)
              case k1 => simp [Value.oneCell']
              case k2 => have := HBL.out; simp only [maxLen]; rw [List.length_take] at this; omega
              case k3 => have := HBL.out; rw [List.length_take] at this; omega
              case k4 => simp; omega
              intro v' w6 hown6 hgrow6 hnil6 hat6
              have hb6 : Below w3.heap.size w3 w6 := (HBq.out.alloc hsz (.cells #[.string e.name] 9)).grown hgrow6 (by simp; omega) (fun k hk => (HOq.out.lt k hk).1)
              have HB6 := Lib.hid hb6
              have HO6 : Hid (w6.ownsRow w3.heap.size 9 1 v' (borderR by_ (es.take (k + 1))).length (strsV (borderR by_ (es.take (k + 1))))) := Lib.hid (by
                rw [HSN.out, show ((true && true) = true) from rfl, if_pos rfl, List.length_append]
                unfold strsV at hown6 ⊢
                rw [List.map_append]; exact hown6)
              clear hb6 hown6 hgrow6 hnil6 hat6
              go_wp2_with fail
              go_roundw
              case rel => exact ⟨k + 1, by omega, by go_num, HB6.out, HO6.out⟩
              case measure => simp [intOf]; omega
            | false =>
              rw [ha] at hx
              have hb : (zb == -1) = true := by cases h : (zb == -1) <;> simp_all
              clear hx
              go_wp2_with fail
              go_quiet (fail)
              have HBq := Lib.hid (below_drewN HBA.out nq)
              have HOq := Lib.hid (own_below HOA.out (below_drewN (Below.refl _ _) nq))
              have n2 : ((wr.alloc (.cells #[.int .i64 e.a, .int .i64 e.b, .string e.name, .bool true, .int .i64 e.fl] 104)).drewN nq).cell? ⟨wr.heap.size, 2, none⟩ = some (.string e.name) := (Blk.new wr 104 #[.int .i64 e.a, .int .i64 e.b, .string e.name, .bool true, .int .i64 e.fl]).cell 2
              have hsz : w3.heap.size ≤ ((wr.alloc (.cells #[.int .i64 e.a, .int .i64 e.b, .string e.name, .bool true, .int .i64 e.fl] 104)).drewN nq).heap.size := HBq.out.size
              clear hca hcb e0 e1 e2 e3 e4
              generalize (wr.alloc (.cells #[.int .i64 e.a, .int .i64 e.b, .string e.name, .bool true, .int .i64 e.fl] 104)).drewN nq = W at *
              go_wp2_with (at_builtin; refine wpList_append_own_at _ rfl (.tmp 50) (.tmp 53) _ rfl w3.heap.size 9 i0 _ 1 16 Try.underlying22 HI0.out HI1.out HI2.out HI3.out rfl (by omega) u10 _ _ rfl (HOq.out.alloc _) ⟨_, 0, none⟩ 1 1 [.string e.name] rfl rfl (cell_one_new _ _ _) ?l1 ?l2 ?l3 ?l4 ?_)
              case l1 => simp [Value.oneCell']
              case l2 => have := HBL.out; simp only [maxLen]; rw [List.length_take] at this; omega
              case l3 => have := HBL.out; rw [List.length_take] at this; omega
              case l4 => simp; omega
              intro v' w6 hown6 hgrow6 hnil6 hat6
              have hb6 : Below w3.heap.size w3 w6 := (HBq.out.alloc hsz (.cells #[.string e.name] 9)).grown hgrow6 (by simp; omega) (fun k hk => (HOq.out.lt k hk).1)
              have HB6 := Lib.hid hb6
              have HO6 : Hid (w6.ownsRow w3.heap.size 9 1 v' (borderR by_ (es.take (k + 1))).length (strsV (borderR by_ (es.take (k + 1))))) := Lib.hid (by
                rw [HSN.out, show ((true && true) = true) from rfl, if_pos rfl, List.length_append]
                unfold strsV at hown6 ⊢
                rw [List.map_append]; exact hown6)
              clear hb6 hown6 hgrow6 hnil6 hat6
              go_wp2_with fail
              go_roundw
              case rel => exact ⟨k + 1, by omega, by go_num, HB6.out, HO6.out⟩
              case measure => simp [intOf]; omega
      · have hkk : k = es.length := by omega
        subst hkk
        rw [List.take_length] at HOW
        obtain ⟨oA, oc, hov, hrd, hoc⟩ := rdStr_own' HOW.out
        have HRD := Lib.hid hrd
        subst hov
        have hlst : lst x p = some (es, borderR by_ es) := by
          rw [HLD.out]
          first | rw [if_pos rfl] | (rw [if_pos trivial]; done)
          all_goals (first | rfl | (rw [HRR.out]; done))
        have HLS := Lib.hid hlst
        clear hrd hlst
        go_wp2_with fail
        go_ret3
        rw [HP.out]
        refine ⟨HB3.out.trans (HB.out.mono hw3), .inr ⟨es, borderR by_ es, q, g, _, oA, oc, j, HLS.out, rfl, hwq, HF3.out.up HB.out, HRD.out, HFL.out, (HJ3.out (by first | rfl | trivial)).1, ?_, ?_, hoc⟩⟩
        · rw [HRR.out]
          have h := (HJ3.out (by first | rfl | trivial)).2
          have h2 := HRR.out
          first | exact h | (rw [h2] at h; exact h)
        · rw [HRR.out]
end Go.Proofs.Ythedpegaelpbdaa
