/- relay.New. -/
import Derived.Test.YtodnjjlhklbniaaDS
import Derived.Carry
namespace Go.Proofs.Ytodnjjlhklbniaa
open Go.ChangeShapes Go.WideShapes Go.ChangeAt Go.RowKit
set_option linter.unusedVariables false
set_option linter.unusedSimpArgs false
attribute [local go_sem ↓] execOp_call_val
attribute [local go_sem] callVal_func setCell_drewN alloc_drewN sEq_walk


def NewP (p : List Rl) (w : World) (e : Ending) (w' : World) : Prop :=
  Below w.heap.size w w' ∧ ((ckR p ≠ 0 ∧ e = .returned (.tuple #[.pointer none, .int .i64 (ckR p)])) ∨
    (ckR p = 0 ∧ ∃ (y : Rel) (o : List Nat), orderR p = some o ∧ y.p = p ∧ y.ord = o ∧ RelOk y ∧ w.heap.size ≤ y.lo ∧ e = .returned (.tuple #[.pointer (some ⟨y.r, 0, none⟩), .int .i64 0]) ∧ RelW y w' (List.replicate p.length false) (fun _ _ => (false, 0))))
set_option maxRecDepth 100000 in
set_option maxHeartbeats 8000000 in
theorem new_any (A : Option Addr) (n c : Nat) (hs : List Rh) (w : World) (hR : RdRh w w.heap.size A n hs) (hn : n ≤ c) (hc : c ≤ maxLen) (hnil : A = none → c = 0) (hf : ∀ z ∈ hs, z.r.Fit) :
    Calls Try.prog 8 #[.slice A n c] w (NewP (rls hs) w) := by
  have HP : Hid (∀ e w', NewP (rls hs) w e w' = (Below w.heap.size w w' ∧ ((ckR (rls hs) ≠ 0 ∧ e = .returned (.tuple #[.pointer none, .int .i64 (ckR (rls hs))])) ∨
    (ckR (rls hs) = 0 ∧ ∃ (y : Rel) (o : List Nat), orderR (rls hs) = some o ∧ y.p = rls hs ∧ y.ord = o ∧ RelOk y ∧ w.heap.size ≤ y.lo ∧ e = .returned (.tuple #[.pointer (some ⟨y.r, 0, none⟩), .int .i64 0]) ∧ RelW y w' (List.replicate (rls hs).length false) (fun _ _ => (false, 0)))))) := Lib.hid fun _ _ => rfl
  have HR := Lib.hid hR
  have HF := Lib.hid hf
  have HHC := Lib.hid hc
  have HNIL := Lib.hid hnil
  have HPL : Hid ((rls hs).length = n) := Lib.hid (by unfold rls; rw [List.length_map]; exact hR.len)
  clear hR hf hc hnil
  go_enter Try.func8, Try.ntmps8
  go_wp2_with fail
  refine (rorder_any A n c hs w HR.out hn HHC.out HF.out).mono ?_
  rintro e w1 ⟨k1, hcs⟩
  have HB1 := Lib.hid k1
  clear k1
  rcases hcs with ⟨hne, rfl⟩ | ⟨h0, o, v, ho, rfl, hown⟩
  · generalize hck : ckR (rls hs) = ck at *
    have hneb : (ck != 0) = true := by simpa using hne
    have HNE := Lib.hid hne
    clear hck hne
    go_wp2_with fail
    go_ret2
    rw [HP.out]
    exact ⟨HB1.out, .inl ⟨HNE.out, rfl⟩⟩
  · obtain ⟨oA, oc, rfl, hor, hoc, hocm, _⟩ := own_rd hown
    have HPO := Lib.hid (ckR_ok h0)
    have H0 := Lib.hid h0
    have HO := Lib.hid ho
    have HOR := Lib.hid (show RdI w1 w1.heap.size oA o.length (natJ o) from hor)
    have hn16 : n ≤ 16 := by have := HPO.out.len; have := HPL.out; omega
    clear h0 ho hown hor hoc hocm
    obtain ⟨no, hno⟩ : ∃ no, no = o.length := ⟨_, rfl⟩
    rw [← hno]
    have HNO := Lib.hid hno
    clear hno
    go_wp2_with fail
    refine (cloneRules A n c hs w1 (HR.out.up HB1.out) hn16 HNIL.out).mono ?_
    rintro e w2 ⟨A', c', rfl, k2, hpos⟩
    have HB2 := Lib.hid (HB1.out.trans (k2.mono HB1.out.size))
    have HOR2 := Lib.hid (HOR.out.up k2)
    obtain ⟨g, hg⟩ : ∃ g, 0 < n → A' = some ⟨g, 0, none⟩ := by
      by_cases h : 0 < n
      · obtain ⟨g, cur, hA, _⟩ := hpos h; exact ⟨g, fun _ => hA⟩
      · exact ⟨0, fun h' => absurd h' h⟩
    have HRW := Lib.hid (HR.out.up HB1.out)
    have hS : NewS w1 n g A' hs hs w2 := by
      refine ⟨HR.out.len, rfl, k2, fun hn0 => ?_, fun z hz => ?_⟩
      · obtain ⟨g', cur, hA, h1, h2, h3⟩ := hpos hn0
        have := hg hn0
        rw [hA] at this
        injection this with this
        injection this with this _ _
        subst this
        exact ⟨hA, h1, cur, h2, h3⟩
      · have hz1 := HRW.out.zs z hz
        obtain ⟨i, hi⟩ := List.mem_iff_getElem?.1 hz
        have hil := (List.getElem?_eq_some_iff.1 hi).1
        have hru := HPO.out.rule i z.r (by unfold rls; rw [List.getElem?_map, hi]; rfl)
        have hzl : z.n = z.r.expr.length := hz1.1.1.symm
        have hzp : 0 < z.n := by
          rcases Nat.eq_zero_or_pos z.n with h | h
          · have h2 := hru.form
            have h3 : z.r.expr = [] := List.eq_nil_of_length_eq_zero (by omega)
            rw [h3] at h2
            simp [endR, endGo] at h2
          · exact h
        refine ⟨(hz1.1.below k2 (Nat.le_refl _)).more k2.size, by rw [hzl]; exact hru.len, fun b o s e => ?_⟩
        obtain ⟨b', off, e', hlt, _⟩ := hz1.1.2.2 hzp
        rw [e] at e'
        injection e' with e'
        injection e' with e' _ _
        obtain ⟨g', cur, hA, h1, _⟩ := hpos (by have := HR.out.len; omega)
        have := hg (by have := HR.out.len; omega)
        rw [hA] at this
        injection this with this
        injection this with this _ _
        omega
    have HS := Lib.hid hS
    have HOW := Lib.hid HB1.out.size
    clear k2 hpos hS hg HOR2
    go_wp2_with fail
    obtain ⟨wo, hwo⟩ : ∃ wo, wo = w2 := ⟨_, rfl⟩
    subst hwo
    go_loopw [20] (fun i wr => ∃ (k : Nat) (hs1 : List Rh), k ≤ n ∧ i = .int .i64 k ∧ NewS w1 n g A' hs hs1 wr ∧ Below w1.heap.size w1 wr ∧ (g < wo.heap.size ∨ n = 0) ∧ (∀ b, b ≠ g → b < wo.heap.size → wr.heap[b]? = wo.heap[b]?) ∧ wo.heap.size ≤ wr.heap.size) (fun i _ => n - (intOf i).toNat)
    case atStart => exact ⟨0, hs, by omega, rfl, HS.out, HS.out.low, by rcases Nat.eq_zero_or_pos n with h | h; (exact .inr h); (obtain ⟨_, _, cur, hb, _⟩ := HS.out.pos h; exact .inl hb.lt), fun _ _ _ => rfl, Nat.le_refl _⟩
    case round =>
      clear HS
      obtain ⟨k, hs1, hk, rfl, hS, hb, hgl, hold, hsz⟩ := hrel
      have HS := Lib.hid hS
      have HBB := Lib.hid hb
      have HGL := Lib.hid hgl
      have HOLD := Lib.hid hold
      have HSZ := Lib.hid hsz
      clear hS hb hgl hold hsz
      by_cases hlt : k < n
      · obtain ⟨z, hz⟩ : ∃ z, hs1[k]? = some z := ⟨_, List.getElem?_eq_getElem (by have := HS.out.len; omega)⟩
        have hn0 : 0 < n := by omega
        obtain ⟨hA, hg1, -⟩ := HS.out.pos hn0
        have HA := Lib.hid hA
        obtain ⟨c0, c1, cf, cl⟩ := HS.out.cells hz hn0
        have hzx := HS.out.ex z (List.mem_of_getElem? hz)
        have hz64 := hzx.2.1
        have HZR := Lib.hid hzx.1
        have HZ := Lib.hid hz
        have hzp : 0 < z.n := by
          have h1 : (rls hs)[k]? = some z.r := by rw [← HS.out.rl]; unfold rls; rw [List.getElem?_map, hz]; rfl
          have hru := (HPO.out.rule k z.r h1).form
          rcases Nat.eq_zero_or_pos z.n with h | h
          · have h3 : z.r.expr = [] := List.eq_nil_of_length_eq_zero (by have := hzx.1.1; omega)
            rw [h3] at hru
            simp [endR, endGo] at hru
          · exact h
        obtain ⟨b, off, hzA, hblt, hcc⟩ := hzx.1.2.2 hzp
        have HCC := Lib.hid hcc
        have HLL := Lib.hid hzx.1.2.1
        rw [hzA] at c1
        rw [hA]
        have hkI : (k : Int) < (n : Int) := by omega
        clear hz hzx hcc hblt hA hg1
        go_wp2_with fail
        refine (cloneNd ⟨b, off, none⟩ z.n z.c (z.r.expr.flatMap Nd.cells) wr HLL.out (by omega) (one_nd _) (fun j u hj => by rw [Addr.add_lit]; exact HCC.out j u hj)).mono ?_
        rintro e w3 ⟨v3, rfl, hown3, hne3, k3⟩
        obtain ⟨g3, c3, cur3, rfl, hg3, hb3, hc3⟩ := own_cur hown3 hne3
        have HPUT := Lib.hid (HS.out.put (c2 := c3) HZ.out hn0 k3 hg3 ⟨HZR.out.1, HZR.out.2.1, fun _ => ⟨g3, 0, rfl, hb3.lt, fun j u hu => by rw [Nat.zero_add, hb3.cell]; exact hc3 j u hu⟩⟩)
        have c1' := (k3.cell (p := ⟨g, k * 2 + 1, none⟩) cl).trans c1
        have cf' := (k3.frozen (p := ⟨g, k * 2 + 1, none⟩) cl).trans cf
        have cl' := Nat.lt_of_lt_of_le cl k3.size
        have HBN : Hid (Below w1.heap.size w1 (w3.setCell ⟨g, k * 2 + 1, none⟩ (.slice (some ⟨g3, 0, none⟩) z.n c3))) := Lib.hid HPUT.out.low
        have HON : Hid ((∀ b, b ≠ g → b < wo.heap.size → (w3.setCell ⟨g, k * 2 + 1, none⟩ (.slice (some ⟨g3, 0, none⟩) z.n c3)).heap[b]? = wo.heap[b]?) ∧ wo.heap.size ≤ (w3.setCell ⟨g, k * 2 + 1, none⟩ (.slice (some ⟨g3, 0, none⟩) z.n c3)).heap.size) := Lib.hid ⟨fun b hbg hbl => (Below.heap_setCell w3 _ _ b hbg).trans ((k3.block b (Nat.lt_of_lt_of_le hbl HSZ.out)).trans (HOLD.out b hbg hbl)), by simp; exact Nat.le_trans HSZ.out k3.size⟩
        clear hown3 hne3 hb3 hc3 k3 c0 c1 cf cl
        go_wp2_with fail
        go_roundw
        case rel => exact ⟨k + 1, _, hlt, by go_num, by rw [← HA.out]; exact HPUT.out, HBN.out, HGL.out, HON.out.1, HON.out.2⟩
        case measure => simp [intOf]; omega
      · have hmk : ∀ w : World, (Instr.makeSlice 22 (.int .i64 (n : Int)) (.int .i64 (n : Int))).run Try.prog w = .ok (.slice (some ⟨w.heap.size, 0, none⟩) n n) (w.alloc (.cells (madeCells #[.bool false] n) 4)) :=
          fun w => run_make_row' (P := Try.prog) 22 4 (.bool false) 1 Try.underlying22 info_Bo rfl .i64 .i64 n (by omega) (by omega) w
        have hmm : ∀ w : World, (Instr.makeMap 55 none).run Try.prog w = .ok (.map (some w.heap.size)) (w.alloc (.map #[] 0)) := fun w => run_makeMap _ w
        have hRr := HS.out.rd
        have HRr := Lib.hid hRr
        have HORr := Lib.hid (RdI.below HOR.out HBB.out (Nat.le_refl _))
        have HWW := Lib.hid (HB1.out.trans (HBB.out.mono HOW.out))
        clear hRr
        go_wp2_with fail
        go_ret2
        rw [HP.out]
        have hbw : Below wr.heap.size wr (((wr.alloc (.cells (madeCells #[.bool false] n) 4)).alloc (.map #[] 0)).alloc (.cells #[.slice A' n c', .slice oA no oc, .slice (some ⟨wr.heap.size, 0, none⟩) n n, .map (some (wr.heap.size + 1))] 57)) := (((Below.refl _ _).alloc (Nat.le_refl _) _).alloc (by simp) _).alloc (by simp; omega) _
        have hol := orderR_ok HO.out
        refine ⟨HWW.out.trans (hbw.mono HWW.out.size), .inr ⟨H0.out, ⟨wr.heap.size, wr.heap.size + 1 + 1, wr.heap.size + 1, wr.heap.size, A', n, c', hs1, oA, no, oc, rls hs, o⟩, o, HO.out, rfl, rfl, ?_, HWW.out.size, rfl, ?_⟩⟩
        · exact ⟨HS.out.rl.symm, hn16, HS.out.len, HNO.out, fun i hi => by have := hol.1.lt i hi; rw [HPL.out] at this; exact this, by rw [hol.2, HPL.out]; exact hn16, by show wr.heap.size ≤ wr.heap.size + 1 + 1; omega, Nat.le_refl _, by show wr.heap.size ≤ wr.heap.size + 1; omega, by show wr.heap.size + 1 + 1 ≠ wr.heap.size; omega, fun i r hi => ⟨(HPO.out.rule i r hi).len, (HPO.out.rule i r hi).form, (HPO.out.rule i r hi).nodes⟩⟩
        · refine ⟨Blk.new_ (by simp), HRr.out.below hbw (Nat.le_refl _), (by have h := (HORr.out.below hbw HBB.out.size).more HBB.out.size; rw [← HNO.out] at h; exact h), ?_, by rw [List.length_replicate]; exact HPL.out, ?_, fun r a => by simp⟩
          · rw [HPL.out, ← made_bools]
            exact ((Blk.new wr _ _).alloc _).alloc _
          · have hk := KeptI.made (wr.alloc (.cells (madeCells #[.bool false] n) 4))
            have hsz : (wr.alloc (.cells (madeCells #[.bool false] n) 4)).heap.size = wr.heap.size + 1 := by simp
            rw [hsz] at hk
            exact hk.at_ (Below.heap_alloc _ _ _ hk.lt)
end Go.Proofs.Ytodnjjlhklbniaa
