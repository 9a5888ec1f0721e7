import Derived.Test.YtakllkkmofdpaaaGreatDoorU25
set_option linter.unusedVariables false
set_option linter.unusedSimpArgs false
namespace Go.Proofs.YtakllkkmofdpaaaGreatDoor
section
open Go.ChangeShapes Go.WideShapes Go.ChangeAt Go.RowKit
attribute [local go_sem ↓] execOp_call_val
attribute [local go_sem] callVal_func setCell_drewN alloc_drewN sEq_walk
theorem mod_slices {m : ModH} {A : Option Addr} {n c i : Nat} {u : Value} (h : (m.cells (.slice A n c))[i]? = some u) : ∃ A' n' c', u = .slice A' n' c' := by
 have h2 : u ∈ (m.cells (.slice A n c)).toList := Array.mem_toList_iff.2 (Array.mem_of_getElem? h)
 simp only [ModH.cells, List.mem_cons, List.not_mem_nil, or_false] at h2
 rcases h2 with rfl | rfl | rfl | rfl | rfl | rfl | rfl | rfl <;> exact ⟨_, _, _, rfl⟩
section
variable {w : World} {g T : Nat} {m : ModH} {A : Option Addr} {k c : Nat}
theorem RdI.keepm {B n : Nat} {A0 : Option Addr} {zs : List Int} (h : RdI w B A0 n zs) (hb : Blk w g T (m.cells (.slice A k c))) (i : Nat) (u : Value) : RdI (w.setCell ⟨g, i, none⟩ u) B A0 n zs := by
 refine ⟨h.1, fun hn => ?_⟩
 obtain ⟨b, off, e, hlt, hc⟩ := h.2 hn
 refine ⟨b, off, e, hlt, fun j v hv => ?_⟩
 have h1 := hc j v hv
 rw [World.cell?_setCell_other]
 ·exact h1
 ·rintro e2
  injection e2 with e2
  subst e2
  rw [hb.cell] at h1
  obtain ⟨A', n', c', rfl⟩ := mod_slices h1
  unfold ints at hv
  rw [List.getElem?_map] at hv
  obtain ⟨z, _, hz⟩ := Option.map_eq_some_iff.1 hv
  cases hz
theorem RtV.keepm {q : Rat} {x : Rv} (h : RtV w w.heap.size q x) (hb : Blk w g T (m.cells (.slice A k c))) {i : Nat} (hi : i < 8) (u : Value) : RtV (w.setCell ⟨g, i, none⟩ u) (w.setCell ⟨g, i, none⟩ u).heap.size q x := by
 obtain ⟨y, hy⟩ : ∃ y, (m.cells (.slice A k c))[i]? = some y := ⟨_, Array.getElem?_eq_getElem (by show i < 8; exact hi)⟩
 obtain ⟨A', n', c', rfl⟩ := mod_slices hy
 have h0 : RtIs w w.heap.size q x.b1 x.A x.n x.c x.b2 x.A2 x.m x.d := h
 exact RtIs.keep h0 (v := .slice A' n' c') (by rw [hb.cell]; exact hy) (fun a b e => by cases e) u
theorem RdQ.keepm {n : Nat} {A0 : Option Addr} {qs : List Rat} (h : RdQ w w.heap.size A0 n qs) (hb : Blk w g T (m.cells (.slice A k c))) {i : Nat} (hi : i < 8) (u : Value) : RdQ (w.setCell ⟨g, i, none⟩ u) (w.setCell ⟨g, i, none⟩ u).heap.size A0 n qs := by
 obtain ⟨vs, h1, h2, h3, h4⟩ := h
 refine ⟨vs, h1, h2, ⟨h3.1, fun hn => ?_⟩, fun j q v hq hv => (h4 j q v hq hv).keepm hb hi u⟩
 obtain ⟨b, off, e, hlt, hc⟩ := h3.2 hn
 have hbg : b ≠ g := by
  rintro rfl
  obtain ⟨v, hv⟩ : ∃ v, vs[0]? = some v := ⟨_, List.getElem?_eq_getElem (by omega)⟩
  have := hc 0 (.bool v.b1) (by have h5 := rvs_at hv 0 (by decide); simpa [Rv.cells] using h5)
  rw [Nat.add_zero, hb.cell] at this
  obtain ⟨A', n', c', e⟩ := mod_slices this
  cases e
 refine ⟨b, off, e, by simpa [World.setCell] using hlt, fun j v hv => ?_⟩
 rw [World.cell?_setCell_other _ _ _ _ (fun e2 => hbg (by injection e2 with e2; exact e2.symm))]
 exact hc j v hv
theorem RdM.keepm {n : Nat} {A0 : Option Addr} {M : List (List Rat)} (h : RdM w w.heap.size A0 n M) (hb : Blk w g T (m.cells (.slice A k c))) (hA : ∀ b off, A0 = some ⟨b, off, none⟩ → b ≠ g) {i : Nat} (hi : i < 8) (u : Value) : RdM (w.setCell ⟨g, i, none⟩ u) (w.setCell ⟨g, i, none⟩ u).heap.size A0 n M := by
 obtain ⟨hs, h1, h2, h3, h4⟩ := h
 refine ⟨hs, h1, h2, ⟨h3.1, fun hn => ?_⟩, fun j z q hz hq => ⟨(h4 j z q hz hq).1.keepm hb hi u, (h4 j z q hz hq).2⟩⟩
 obtain ⟨b, off, e, hlt, hc⟩ := h3.2 hn
 refine ⟨b, off, e, by simpa [World.setCell] using hlt, fun j v hv => ?_⟩
 rw [World.cell?_setCell_other _ _ _ _ (fun e2 => hA b off e (by injection e2 with e2; exact e2.symm))]
 exact hc j v hv
theorem RdMod.keepm {m' : ModH} {x : Net} (h : RdMod w w.heap.size m' x) (hb : Blk w g T (m.cells (.slice A k c))) {i : Nat} (hi : i < 8) (u : Value) : RdMod (w.setCell ⟨g, i, none⟩ u) (w.setCell ⟨g, i, none⟩ u).heap.size m' x := by
 have hs : (w.setCell ⟨g, i, none⟩ u).heap.size = w.heap.size := by simp [World.setCell]
 refine ⟨?_, ?_, ?_, ?_, h.r4.keepm hb hi u, h.r5.keepm hb hi u, ?_⟩ <;> rw [hs]
 ·exact h.r0.keepm hb i u
 ·exact h.r1.keepm hb i u
 ·exact h.r2.keepm hb i u
 ·exact h.r3.keepm hb i u
 ·exact h.r6.keepm hb i u
end
theorem MatS.keepv {B0 g : Nat} {w0 wr : World} {v : Value} {piv : List Nat} {hs : List Mh} {L : List (List Rat)} (m : MatS B0 g w0 wr v piv hs L) {i j : Nat} {h : Mh} {q : List Rat} {x u : Rv} {z : Rat} (hh : hs[i]? = some h) (hq : L[i]? = some q) (hj : j < q.length) (hu : RtV wr wr.heap.size z u) : RtV (putV wr h.g j x) (putV wr h.g j x).heap.size z u := by
 have hr := m.own.row i h q hh hq
 obtain ⟨h1, h2, h3, cs, h4, h5⟩ := hr.lies (by omega)
 obtain ⟨y, hy⟩ : ∃ y, h.vs[j]? = some y := ⟨_, List.getElem?_eq_getElem (by rw [hr.len]; exact hj)⟩
 exact RtV.keep4 hu x h4 h5 hy
def InvtP (g : Nat) (m : ModH) (x : Net) (w : World) (e : Ending) (w' : World) : Prop := e = .returned (.tuple #[]) ∧ w.grownBy w' (some g) ∧ RdMod w' w'.heap.size m x ∧ ∃ A n c, Blk w' g 123 (m.cells (.slice A n c)) ∧ (mReg x → n = (freeL x).length ∧ RdM w' w'.heap.size A n (mInv x))
theorem freeL_len {x : Net} (ok : NetOk x) (h8 : x.nodes.length ≤ 8) : (freeL x).length ≤ 8 := by
 unfold freeL pick
 refine Nat.le_trans (List.length_filter_le _ _) ?_
 rw [List.length_range]
 exact Nat.le_trans (busN_ok ok).2 h8
theorem admGo_cons {free : List Nat} {B : List Rat} {F G : List Nat} {A : List (List Rat)} {k u v : Nat} {b : Rat} (h1 : B[k]? = some b) (h2 : F[k]? = some u) (h3 : G[k]? = some v) : admGo free (B.drop k) (F.drop k) (G.drop k) A = admGo free (B.drop (k + 1)) (F.drop (k + 1)) (G.drop (k + 1)) (admStep free A b u v) := by
 rw [drop_cons h1, drop_cons h2, drop_cons h3]
 rfl
set_option maxRecDepth 100000 in
set_option maxHeartbeats 8000000 in
theorem invert_any (g : Nat) (m : ModH) (x : Net) (ok : NetOk x) (h8 : x.nodes.length ≤ 8) (w : World) (hb : Blk w g 123 (m.cells (.slice none 0 0))) (r : RdMod w w.heap.size m x) :
    Calls Tryz.prog 101 #[.pointer (some ⟨g, 0, none⟩)] w (InvtP g m x w) := by
 have HG := Lib.hid hb
 have HR := Lib.hid r
 have HN6 : Hid ((freeL x).length = m.n6) := Lib.hid (by rw [← natJ_len]; exact r.r6.len)
 have HN4 : Hid (x.brs.length = m.n4) := Lib.hid (by rw [← mB_len]; exact r.r4.len)
 have HN2 : Hid (x.brs.length = m.n2) := Lib.hid (by rw [← mFrom_len, ← natJ_len]; exact r.r2.len)
 have HN3 : Hid (x.brs.length = m.n3) := Lib.hid (by rw [← mTo_len, ← natJ_len]; exact r.r3.len)
 have h6 : m.n6 ≤ 8 := by rw [← HN6.out]; exact freeL_len ok h8
 have h4 : m.n4 ≤ 24 := by rw [← HN4.out]; exact ok.l2
 have HSB : Hid (∀ q ∈ mB x, qsz q ≤ 1) := Lib.hid fun q hq => by
  unfold mB at hq
  obtain ⟨b, hb, rfl⟩ := List.mem_map.1 hq
  exact sus_qsz (ok.br b hb).2.2.2
 have HPL : Hid (∀ (u : Nat) (w' : World), Below w.heap.size w w' → Calls Tryz.prog 133 #[.pointer (some ⟨g, 0, none⟩), .int .i64 (u : Int)] w' fun e w'' => e = .returned (.int .i64 (optI (plc (freeL x) u))) ∧ w'' = w') := Lib.hid fun u w' hb' =>
  (place_any g m _ (freeL x) u w' (HG.out.below hb' HG.out.lt) ((r.r6.below hb' (Nat.le_refl _)).more hb'.size) (by omega)).mono fun e w'' h => ⟨h.1, h.2.symm⟩
 clear hb r ok h8
 have y6 := HG.out.cell 6
 have yl := HG.out.lt
 have hmk : ∀ w : World, (Instr.makeSlice 117 (.int .i64 (m.n6 : Int)) (.int .i64 (m.n6 : Int))).run Tryz.prog w = .ok (.slice (some ⟨w.heap.size, 0, none⟩) m.n6 m.n6) (w.alloc (.cells (nilRows m.n6) 103)) := fun w => make_rows m.n6 (by omega) w
 have HK := Lib.hid ((Below.refl w.heap.size w).alloc (Nat.le_refl _) (.cells (nilRows m.n6) 103))
 have HGM := Lib.hid (Blk.new w 103 (nilRows m.n6))
 obtain ⟨A0, n0, c0, A1, n1, c1, A2, n2, c2, A3, n3, c3, A4, n4, c4, A5, n5, c5, A6, n6, c6⟩ := m
 simp only [ModH.cells] at HG y6 hmk HK HGM HN6 HN4 HN2 HN3 h6 h4
 go_enter Tryz.func101, Tryz.ntmps101
 go_wp2_with fail
 clear hmk
 generalize w.alloc (.cells (nilRows n6) 103) = W at *
 have HO := Lib.hid (ownM_made HGM.out (Nat.le_refl _))
 generalize hga : w.heap.size = ga at *
 have HGA := Lib.hid hga
 clear hga HGM
 go_loopw [18] (fun v18 wr => ∃ (k : Nat) (hs : List Mh), k ≤ n6 ∧ v18 = .int .i64 k ∧ Below ga w wr ∧ OwnM wr ga ga hs ((adm0 n6).take k ++ List.replicate (n6 - k) [])) (fun v18 _ => n6 - (intOf v18).toNat)
 case atStart => exact ⟨0, _, by omega, rfl, HK.out, by rw [List.take_zero, List.nil_append, Nat.sub_zero]; exact HO.out⟩
 case round =>
  clear HK HO
  obtain ⟨k, hs, hk, rfl, hb, ho⟩ := hrel
  have HK := Lib.hid hb
  have HO := Lib.hid ho
  clear hb ho
  by_cases hlt : k < n6
  ·have hkI : (k : Int) < (n6 : Int) := by omega
   have HNX : Hid ((k : Int) + 1 = ((k + 1 : Nat) : Int)) := Lib.hid (by omega)
   have HNM : Hid (n6 - (k + 1) < n6 - k) := Lib.hid (by omega)
   have HGL : Hid (ga < wr.heap.size) := Lib.hid HO.out.top.lt
   clear y6 yl
   go_wp2_with fail
   refine (zeros_any n6 wr (by omega)).mono ?_
   rintro e w7 ⟨hb7, gz, vz, rfl, hgz, hbz, hvz⟩
   have HO8 := Lib.hid (HO.out.up hb7)
   have HRW : Hid (MRow w7 ga ga ⟨some ⟨gz, 0, none⟩, gz, n6, List.replicate n6 vz⟩ (List.replicate n6 0)) := Lib.hid (zer_row hbz hvz (by have := HGL.out; omega) (by have := HGL.out; omega) (by omega))
   have HBW := Lib.hid (HK.out.trans (hb7.mono (Nat.le_of_lt HGL.out)))
   have HFR : Hid (∀ j (h' : Mh), j ≠ k → hs[j]? = some h' → 0 < h'.vs.length → 0 < (List.replicate n6 vz).length → h'.g ≠ gz) := Lib.hid fun j h' _ hh l1 l2 => by
    have h3 := HO.out.lt hh l1
    omega
   clear hb7 hbz hvz hgz HK HO
   have gl := HO8.out.top.lt
   have gf := HO8.out.top.frozen
   have HKL : Hid (k < (((adm0 n6).take k ++ List.replicate (n6 - k) []) : List (List Rat)).length) := Lib.hid (by simp [adm0]; omega)
   obtain ⟨gv, gc⟩ : ∃ gv, w7.cell? ⟨ga, k, none⟩ = some gv := by
    rw [HO8.out.top.cell]
    exact ⟨_, Array.getElem?_eq_getElem (by rw [List.size_toArray, List.length_map, HO8.out.len]; exact HKL.out)⟩
   have HO9 := Lib.hid (HO8.out.setRow HKL.out HRW.out HFR.out)
   rw [zer_set hlt, List.length_replicate] at HO9
   go_wp2_with fail
   go_roundw
   case rel => exact ⟨k + 1, _, hlt, val_int HNX.out, HBW.out.setCell (Nat.le_refl _) _, HO9.out⟩
   case measure => exact HNM.out
  ·have hke : k = n6 := by omega
   have HO1 : Hid (OwnM wr ga ga hs (adm0 n6)) := Lib.hid (by
    have h := HO.out
    rw [hke, Nat.sub_self, List.replicate_zero, List.append_nil, List.take_of_length_le (by unfold adm0; rw [List.length_replicate]; exact Nat.le_refl _)] at h
    exact h)
   have hkI : ¬ (k : Int) < (n6 : Int) := by omega
   have HGW : Hid (Below w.heap.size w wr) := Lib.hid (by rw [HGA.out]; exact HK.out)
   have HG1 := Lib.hid (HG.out.below HGW.out HG.out.lt)
   have y4 := HG1.out.cell 4
   have yl1 := HG1.out.lt
   clear y6 yl HO hke
   go_wp2_with fail
   clear y4 yl1 HGW HG1
   generalize wr = wz at *
   go_loopw [32] (fun v32 wr => ∃ (k : Nat) (hs : List Mh) (A : List (List Rat)), k ≤ n4 ∧ v32 = .int .i64 k ∧ MatS ga ga w wr (.slice none 0 0) [] hs A ∧ AdmOk n6 (3 + 8 * k) A ∧ admGo (freeL x) ((mB x).drop k) ((mFrom x).drop k) ((mTo x).drop k) A = admR x) (fun v32 _ => n4 - (intOf v32).toNat)
   case atStart => exact ⟨0, hs, adm0 n6, by omega, rfl, ⟨HO1.out, ownS_none _ _ _ _ _, HK.out⟩, adm0_ok n6, by unfold admR; rw [HN6.out]; rfl⟩
   case round =>
    clear HK HO1
    obtain ⟨k, hs, A, hk, rfl, ho, hok, hgo⟩ := hrel
    have hb := ho.low
    have HMA := Lib.hid ho
    have HOK := Lib.hid hok
    have HGO := Lib.hid hgo
    have HW : Hid (Below w.heap.size w wr) := Lib.hid (by rw [HGA.out]; exact hb)
    have HRW := Lib.hid ((HR.out.below hb (Nat.le_refl _)).more (Nat.le_of_lt ho.own.top.lt))
    have HG1 := Lib.hid (HG.out.below HW.out HG.out.lt)
    clear hb ho hok hgo
    by_cases hlt : k < n4
    ·obtain ⟨q, hq⟩ : ∃ q, (mB x)[k]? = some q := ⟨_, List.getElem?_eq_getElem (by rw [mB_len]; have := HN4.out; omega)⟩
     obtain ⟨u, hu⟩ : ∃ u, (mFrom x)[k]? = some u := ⟨_, List.getElem?_eq_getElem (by rw [mFrom_len]; have := HN4.out; omega)⟩
     obtain ⟨v, hv⟩ : ∃ v, (mTo x)[k]? = some v := ⟨_, List.getElem?_eq_getElem (by rw [mTo_len]; have := HN4.out; omega)⟩
     have HST := Lib.hid (admGo_cons (free := freeL x) (A := A) hq hu hv)
     rw [HGO.out] at HST
     have HQZ := Lib.hid (HSB.out q (List.mem_of_getElem? hq))
     have hr4 := HRW.out.r4
     have hr2 := HRW.out.r2
     have hr3 := HRW.out.r3
     simp only at hr4 hr2 hr3
     obtain ⟨ab, ao, hA1, hab⟩ := hr4.form (by omega)
     subst hA1
     obtain ⟨xr, a0, a1, a2, a3, a4⟩ := hr4.at_ hq
     have HX := Lib.hid a4
     obtain ⟨fb, fo, hA2, hfb, -⟩ := hr2.2 (by have := HN2.out; have := HN4.out; omega)
     subst hA2
     have f0 := hr2.at_ (natJ_at hu)
     obtain ⟨tb, to2, hA3, htb, -⟩ := hr3.2 (by have := HN3.out; have := HN4.out; omega)
     subst hA3
     have t0 := hr3.at_ (natJ_at hv)
     have hkI : (k : Int) < (n4 : Int) := by omega
     have hk2 : k < n2 := by have := HN2.out; have := HN4.out; omega
     have hk3 : k < n3 := by have := HN3.out; have := HN4.out; omega
     have hk2I : (k : Int) < (n2 : Int) := by omega
     have hk3I : (k : Int) < (n3 : Int) := by omega
     have hk0 : (0 : Int) ≤ (k : Int) := by omega
     have hkn : (k : Int).toNat = k := Int.toNat_natCast k
     have HNX : Hid ((k : Int) + 1 = ((k + 1 : Nat) : Int)) := Lib.hid (by omega)
     have HNM : Hid (n4 - (k + 1) < n4 - k) := Lib.hid (by omega)
     have HGWL : Hid (ga < wr.heap.size) := Lib.hid HMA.out.own.top.lt
     clear hq hu hv a4 hr4 hr2 hr3
     go_upto_region 10 with fail
     clear a0 a1 a2 a3
     generalize hwa : wr.alloc (.cells #[.bool xr.b1, .slice xr.A xr.n xr.c, .bool xr.b2, .slice xr.A2 xr.m xr.d] 93) = wa
     have hba : Below wr.heap.size wr wa := by rw [← hwa]; exact (Below.refl _ _).alloc (Nat.le_refl _) _
     have HSX : Hid (Blk wa wr.heap.size 93 #[.bool xr.b1, .slice xr.A xr.n xr.c, .bool xr.b2, .slice xr.A2 xr.m xr.d]) := Lib.hid (by rw [← hwa]; exact Blk.new wr _ _)
     have HBX : Hid (BoxS wa ga wr.heap.size hs q xr) := Lib.hid ⟨HSX.out, HX.out.up hba, fun i h hh l => HMA.out.own.lt hh l⟩
     replace HMA := Lib.hid (HMA.out.up hba)
     replace HG1 := Lib.hid (HG1.out.below hba HG1.out.lt)
     have f0' := (hba.cell (p := ⟨fb, fo + k, none⟩) hfb).trans f0
     have t0' := (hba.cell (p := ⟨tb, to2 + k, none⟩) htb).trans t0
     have hfl : fb < wa.heap.size := Nat.lt_of_lt_of_le hfb hba.size
     have htl : tb < wa.heap.size := Nat.lt_of_lt_of_le htb hba.size
     clear f0 t0 hfb htb HRW hwa hba HSX HX
     generalize hgx : wr.heap.size = gx at *
     have HGX := Lib.hid hgx
     clear hgx
     have HPA : Hid (∀ (u N : Nat), Calls Tryz.prog 133 #[.pointer (some ⟨g, 0, none⟩), .int .i64 (u : Int)] (wa.drewN N) fun e w'' => e = .returned (.int .i64 (optI (plc (freeL x) u))) ∧ w'' = wa.drewN N) := Lib.hid fun u N => HPL.out u (wa.drewN N) (below_drewN HMA.out.low N)
     have y2 := HG1.out.cell 2
     have y3 := HG1.out.cell 3
     have yl := HG1.out.lt
     go_quiet ((first | (go_at_call_of 133 (Value.int .i64 (u : Int)); exact (HPA.out u _).mono (fun _ _ hh => ⟨hh.1, _, hh.2⟩)) | (go_at_call_of 133 (Value.int .i64 (v : Int)); exact (HPA.out v _).mono (fun _ _ hh => ⟨hh.1, _, hh.2⟩))))
     replace HMA := Lib.hid (HMA.out.up (below_drewN (Below.refl _ _) nq))
     replace HBX := Lib.hid (HBX.out.up (below_drewN (Below.refl _ _) nq))
     clear HPA
     replace HG1 := Lib.hid (HG1.out.drewN nq)
     have f0 : (wa.drewN nq).cell? ⟨fb, fo + k, none⟩ = some (.int .i64 (u : Int)) := f0'
     have t0 : (wa.drewN nq).cell? ⟨tb, to2 + k, none⟩ = some (.int .i64 (v : Int)) := t0'
     have hfl2 : fb < (wa.drewN nq).heap.size := hfl
     have htl2 : tb < (wa.drewN nq).heap.size := htl
     clear f0' t0' hfl htl y2 y3 yl
     generalize wa.drewN nq = wd at *
     have y2 := HG1.out.cell 2
     have y3 := HG1.out.cell 3
     have yl := HG1.out.lt
     by_cases huv : u = v
     ·subst huv
      have HSA : Hid (admStep (freeL x) A q u u = A) := Lib.hid (by unfold admStep; rw [if_pos rfl])
      rw [HSA.out] at HST
      go_wp2_with fail
      go_quiet (fail)
      go_wp2_with fail
      go_roundw
      case rel => exact ⟨k + 1, hs, A, hlt, val_int HNX.out, HMA.out.up (below_drewN (Below.refl _ _) _), HOK.out.mono (by omega), HST.out.symm⟩
      case measure => exact HNM.out
     ·have huvI : ¬ ((u : Int) = (v : Int)) := by omega
      have huvB : ((u : Int) == (v : Int)) = false := by simp; omega
      go_wp2_with fail
      go_quiet (fail)
      clear f0 t0 hfl2 htl2 y2 y3 yl huvI huvB
      replace HMA := Lib.hid (HMA.out.up (below_drewN (Below.refl _ _) nq))
      replace HBX := Lib.hid (HBX.out.up (below_drewN (Below.refl _ _) nq))
      clear HG1
      generalize wd.drewN nq = we at *
      have HFL := Lib.hid HN6.out
      cases hpu : plc (freeL x) u with
      | none =>
       cases hpv : plc (freeL x) v with
       | none =>
        have HSA : Hid (admStep (freeL x) A q u v = A) := Lib.hid (by unfold admStep; rw [if_neg huv, hpu, hpv])
        rw [HSA.out] at HST
        rw [(show optI (none : Option Nat) = -1 from rfl)]
        go_wp2_with fail
        go_roundw
        case rel => exact ⟨k + 1, hs, A, hlt, val_int HNX.out, HMA.out, HOK.out.mono (by omega), HST.out.symm⟩
        case measure => exact HNM.out
       | some j =>
        have hi := (plc_lt hpv).1
        rw [HFL.out] at hi
        have HSA : Hid (admStep (freeL x) A q u v = addAt A j j q) := Lib.hid (by unfold admStep; rw [if_neg huv, hpu, hpv])
        rw [HSA.out] at HST
        rw [(show optI (none : Option Nat) = -1 from rfl), show optI (some j) = (j : Int) from rfl]
        have hiI : (j : Int) < (n6 : Int) := by omega
        have hi0 : (0 : Int) ≤ (j : Int) := by omega
        clear hpu hpv HSA
        go_upto_region 15 with fail
        obtain ⟨ra, hra⟩ : ∃ ra, A[j]? = some ra := ⟨_, List.getElem?_eq_getElem (by have := HOK.out.len; omega)⟩
        have hral : ra.length = n6 := HOK.out.wid ra (List.mem_of_getElem? hra)
        obtain ⟨gg, cc, vs, xe, hh, c, hx, c0, c1, c2', c3', hv, l1, f1, hne⟩ := HMA.out.elem (i := j) (j := j) hra (by omega)
        rw [hral] at c
        have HH := Lib.hid hh
        have HXX := Lib.hid hx
        have HVV := Lib.hid hv
        have HRA := Lib.hid hra
        have HRL := Lib.hid hral
        have HQS : Hid (qsz (vf ra j) + qsz q + 1 ≤ 35184372088832) := Lib.hid (by have := HOK.out.bd.vf hra (j := j) (by omega); have := HQZ.out; omega)
        have gl := HMA.out.own.top.lt
        have z0 := HBX.out.blk.cell 0
        have z1 := HBX.out.blk.cell 1
        have z2 := HBX.out.blk.cell 2
        have z3 := HBX.out.blk.cell 3
        have zl := HBX.out.blk.lt
        have HB4 := Lib.hid (below_drew (Below.refl we.heap.size we))
        have hixI : (j : Int) < (n6 : Int) := by omega
        have hix0 : (0 : Int) ≤ (j : Int) := by omega
        have hixn : (j : Int).toNat = j := Int.toNat_natCast j
        clear hh hx hv hra hral
        refine wp_region_last (S := fun w' => Below we.heap.size we w') 15 _ (by kernel_rfl) (by kernel_rfl) rfl (below_drew (Below.refl _ _)) (fun hHeld => ?_)
        simp only [List.take_succ_cons, List.take_zero]
        refine tkH 0 rfl (by intro w' _ hcc; go_simp <;> with_reducible rfl) hHeld ?_
        try simp only [Act.put, sA_, sB_, sC_]
        refine tkH 1 rfl (by intro w' _ hcc; go_simp <;> with_reducible rfl) hHeld ?_
        try simp only [Act.put, sA_, sB_, sC_]
        refine tkH 2 rfl (by intro w' _ hcc; go_simp <;> with_reducible rfl) hHeld ?_
        try simp only [Act.put, sA_, sB_, sC_]
        refine tkH 3 rfl (by intro w' _ hcc; go_simp <;> with_reducible rfl) hHeld ?_
        try simp only [Act.put, sA_, sB_, sC_]
        refine tkH 4 rfl (by intro w' _ hcc; go_simp <;> with_reducible rfl) hHeld ?_
        try simp only [Act.put, sA_, sB_, sC_]
        refine tkH 5 rfl (by intro w' _ hcc; go_simp <;> with_reducible rfl) hHeld ?_
        try simp only [Act.put, sA_, sB_, sC_]
        refine tkH 6 rfl (by intro w' _ hcc; go_simp <;> with_reducible rfl) hHeld ?_
        try simp only [Act.put, sA_, sB_, sC_]
        refine tkH 7 rfl (by intro w' _ hcc; go_simp <;> with_reducible rfl) hHeld ?_
        try simp only [Act.put, sA_, sB_, sC_]
        refine tkH 8 rfl (by intro w' _ hcc; go_simp <;> with_reducible rfl) hHeld ?_
        try simp only [Act.put, sA_, sB_, sC_]
        refine tkH 9 rfl (by intro w' _ hcc; go_simp <;> with_reducible rfl) hHeld ?_
        try simp only [Act.put, sA_, sB_, sC_]
        refine tkH 10 rfl (by intro w' _ hcc; go_simp <;> with_reducible rfl) hHeld ?_
        try simp only [Act.put, sA_, sB_, sC_]
        refine tkH 11 rfl (by intro w' _ hcc; go_simp <;> with_reducible rfl) hHeld ?_
        try simp only [Act.put, sA_, sB_, sC_]
        refine tkH 12 rfl (by intro w' _ hcc; go_simp <;> with_reducible rfl) hHeld ?_
        try simp only [Act.put, sA_, sB_, sC_]
        refine stepH 13 (by kernel_rfl) rfl (fun K hK => ?_)
        go_simp
        refine (addV (HVV.out.up HB4.out) (HBX.out.val.up HB4.out) HQS.out).mono ?_
        rintro e w8 ⟨hb8, v8, rfl, h8⟩
        have HB8 : Hid (Below we.heap.size we w8) := Lib.hid (HB4.out.trans (hb8.mono HB4.out.size))
        have H8 := Lib.hid h8
        clear hb8 h8
        go_simp
        refine hK.out _ _ ?_ (fun hHeld => ?_)
        ·exact HB8.out
        clear hK K
        try simp only [Act.put, sA_, sB_, sC_]
        refine tkH 14 rfl (by intro w' _ hcc; go_simp <;> with_reducible rfl) hHeld ?_
        try simp only [Act.put, sA_, sB_, sC_]
        refine wpAnyH_done (by kernel_rfl) ?_ _
        refine lastQ_go (by rfl) ?_
        clear hHeld
        have HM8 := Lib.hid (HMA.out.up HB8.out)
        have HX8 := Lib.hid (HBX.out.up HB8.out)
        clear c c0 c1 c2' c3' l1 f1 hne gl z0 z1 z2 z3 zl HMA HBX HVV HQS HB4
        obtain ⟨c0, c1, c2', c3', l1, f1⟩ := HM8.out.elem2 HH.out HRA.out HXX.out
        go_upto_region 16 with fail
        clear c0 c1 c2' c3' l1 f1
        have HMA := HM8.out.put HH.out HRA.out (j := j) (x := v8) (by rw [HRL.out]; omega) H8.out
        have HBX := HX8.out.put HM8.out HH.out HRA.out (j := j) (x := v8) (by rw [HRL.out]; omega)
        rw [← addAt_row HRA.out] at HMA
        replace HOK : Hid (AdmOk n6 (3 + 8 * k + 2) (addAt A j j q)) := Lib.hid (HOK.out.add (by omega) (by omega) HQZ.out)
        simp only [putV] at HMA HBX
        generalize (((w8.setCell ⟨gg, j * 4, none⟩ _).setCell ⟨gg, j * 4 + 1, none⟩ _).setCell ⟨gg, j * 4 + 2, none⟩ _).setCell ⟨gg, j * 4 + 3, none⟩ _ = wf at *
        replace HMA := Lib.hid HMA
        replace HBX := Lib.hid HBX
        generalize hs.set j _ = hs1 at *
        obtain ⟨A1, hA1⟩ : ∃ A1, addAt A j j q = A1 := ⟨_, rfl⟩
        rw [hA1] at HMA HOK
        have HA1 := Lib.hid hA1
        clear hA1 HM8 HX8 H8 HB8 HH HRA HRL HXX hixI hix0 hixn
        rw [HA1.out] at HST
        go_wp2_with fail
        go_roundw
        case rel => exact ⟨k + 1, hs1, A1, hlt, val_int HNX.out, HMA.out, HOK.out.mono (by omega), HST.out.symm⟩
        case measure => exact HNM.out
      | some i =>
       cases hpv : plc (freeL x) v with
       | none =>
        have hi := (plc_lt hpu).1
        rw [HFL.out] at hi
        have HSA : Hid (admStep (freeL x) A q u v = addAt A i i q) := Lib.hid (by unfold admStep; rw [if_neg huv, hpu, hpv])
        rw [HSA.out] at HST
        rw [(show optI (none : Option Nat) = -1 from rfl), show optI (some i) = (i : Int) from rfl]
        have hiI : (i : Int) < (n6 : Int) := by omega
        have hi0 : (0 : Int) ≤ (i : Int) := by omega
        clear hpu hpv HSA
        go_upto_region 13 with fail
        obtain ⟨ra, hra⟩ : ∃ ra, A[i]? = some ra := ⟨_, List.getElem?_eq_getElem (by have := HOK.out.len; omega)⟩
        have hral : ra.length = n6 := HOK.out.wid ra (List.mem_of_getElem? hra)
        obtain ⟨gg, cc, vs, xe, hh, c, hx, c0, c1, c2', c3', hv, l1, f1, hne⟩ := HMA.out.elem (i := i) (j := i) hra (by omega)
        rw [hral] at c
        have HH := Lib.hid hh
        have HXX := Lib.hid hx
        have HVV := Lib.hid hv
        have HRA := Lib.hid hra
        have HRL := Lib.hid hral
        have HQS : Hid (qsz (vf ra i) + qsz q + 1 ≤ 35184372088832) := Lib.hid (by have := HOK.out.bd.vf hra (j := i) (by omega); have := HQZ.out; omega)
        have gl := HMA.out.own.top.lt
        have z0 := HBX.out.blk.cell 0
        have z1 := HBX.out.blk.cell 1
        have z2 := HBX.out.blk.cell 2
        have z3 := HBX.out.blk.cell 3
        have zl := HBX.out.blk.lt
        have HB4 := Lib.hid (below_drew (Below.refl we.heap.size we))
        have hixI : (i : Int) < (n6 : Int) := by omega
        have hix0 : (0 : Int) ≤ (i : Int) := by omega
        have hixn : (i : Int).toNat = i := Int.toNat_natCast i
        clear hh hx hv hra hral
        refine wp_region_last (S := fun w' => Below we.heap.size we w') 15 _ (by kernel_rfl) (by kernel_rfl) rfl (below_drew (Below.refl _ _)) (fun hHeld => ?_)
        simp only [List.take_succ_cons, List.take_zero]
        refine tkH 0 rfl (by intro w' _ hcc; go_simp <;> with_reducible rfl) hHeld ?_
        try simp only [Act.put, sA_, sB_, sC_]
        refine tkH 1 rfl (by intro w' _ hcc; go_simp <;> with_reducible rfl) hHeld ?_
        try simp only [Act.put, sA_, sB_, sC_]
        refine tkH 2 rfl (by intro w' _ hcc; go_simp <;> with_reducible rfl) hHeld ?_
        try simp only [Act.put, sA_, sB_, sC_]
        refine tkH 3 rfl (by intro w' _ hcc; go_simp <;> with_reducible rfl) hHeld ?_
        try simp only [Act.put, sA_, sB_, sC_]
        refine tkH 4 rfl (by intro w' _ hcc; go_simp <;> with_reducible rfl) hHeld ?_
        try simp only [Act.put, sA_, sB_, sC_]
        refine tkH 5 rfl (by intro w' _ hcc; go_simp <;> with_reducible rfl) hHeld ?_
        try simp only [Act.put, sA_, sB_, sC_]
        refine tkH 6 rfl (by intro w' _ hcc; go_simp <;> with_reducible rfl) hHeld ?_
        try simp only [Act.put, sA_, sB_, sC_]
        refine tkH 7 rfl (by intro w' _ hcc; go_simp <;> with_reducible rfl) hHeld ?_
        try simp only [Act.put, sA_, sB_, sC_]
        refine tkH 8 rfl (by intro w' _ hcc; go_simp <;> with_reducible rfl) hHeld ?_
        try simp only [Act.put, sA_, sB_, sC_]
        refine tkH 9 rfl (by intro w' _ hcc; go_simp <;> with_reducible rfl) hHeld ?_
        try simp only [Act.put, sA_, sB_, sC_]
        refine tkH 10 rfl (by intro w' _ hcc; go_simp <;> with_reducible rfl) hHeld ?_
        try simp only [Act.put, sA_, sB_, sC_]
        refine tkH 11 rfl (by intro w' _ hcc; go_simp <;> with_reducible rfl) hHeld ?_
        try simp only [Act.put, sA_, sB_, sC_]
        refine tkH 12 rfl (by intro w' _ hcc; go_simp <;> with_reducible rfl) hHeld ?_
        try simp only [Act.put, sA_, sB_, sC_]
        refine stepH 13 (by kernel_rfl) rfl (fun K hK => ?_)
        go_simp
        refine (addV (HVV.out.up HB4.out) (HBX.out.val.up HB4.out) HQS.out).mono ?_
        rintro e w8 ⟨hb8, v8, rfl, h8⟩
        have HB8 : Hid (Below we.heap.size we w8) := Lib.hid (HB4.out.trans (hb8.mono HB4.out.size))
        have H8 := Lib.hid h8
        clear hb8 h8
        go_simp
        refine hK.out _ _ ?_ (fun hHeld => ?_)
        ·exact HB8.out
        clear hK K
        try simp only [Act.put, sA_, sB_, sC_]
        refine tkH 14 rfl (by intro w' _ hcc; go_simp <;> with_reducible rfl) hHeld ?_
        try simp only [Act.put, sA_, sB_, sC_]
        refine wpAnyH_done (by kernel_rfl) ?_ _
        refine lastQ_go (by rfl) ?_
        clear hHeld
        have HM8 := Lib.hid (HMA.out.up HB8.out)
        have HX8 := Lib.hid (HBX.out.up HB8.out)
        clear c c0 c1 c2' c3' l1 f1 hne gl z0 z1 z2 z3 zl HMA HBX HVV HQS HB4
        obtain ⟨c0, c1, c2', c3', l1, f1⟩ := HM8.out.elem2 HH.out HRA.out HXX.out
        go_upto_region 14 with fail
        clear c0 c1 c2' c3' l1 f1
        have HMA := HM8.out.put HH.out HRA.out (j := i) (x := v8) (by rw [HRL.out]; omega) H8.out
        have HBX := HX8.out.put HM8.out HH.out HRA.out (j := i) (x := v8) (by rw [HRL.out]; omega)
        rw [← addAt_row HRA.out] at HMA
        replace HOK : Hid (AdmOk n6 (3 + 8 * k + 2) (addAt A i i q)) := Lib.hid (HOK.out.add (by omega) (by omega) HQZ.out)
        simp only [putV] at HMA HBX
        generalize (((w8.setCell ⟨gg, i * 4, none⟩ _).setCell ⟨gg, i * 4 + 1, none⟩ _).setCell ⟨gg, i * 4 + 2, none⟩ _).setCell ⟨gg, i * 4 + 3, none⟩ _ = wf at *
        replace HMA := Lib.hid HMA
        replace HBX := Lib.hid HBX
        generalize hs.set i _ = hs1 at *
        obtain ⟨A1, hA1⟩ : ∃ A1, addAt A i i q = A1 := ⟨_, rfl⟩
        rw [hA1] at HMA HOK
        have HA1 := Lib.hid hA1
        clear hA1 HM8 HX8 H8 HB8 HH HRA HRL HXX hixI hix0 hixn
        rw [HA1.out] at HST
        go_wp2_with fail
        go_roundw
        case rel => exact ⟨k + 1, hs1, A1, hlt, val_int HNX.out, HMA.out, HOK.out.mono (by omega), HST.out.symm⟩
        case measure => exact HNM.out
       | some j =>
        have hi := (plc_lt hpu).1
        have hj := (plc_lt hpv).1
        have hij := plc_ne hpu hpv huv
        rw [HFL.out] at hi hj
        have HSA : Hid (admStep (freeL x) A q u v = addAt (addAt (addAt (addAt A i i q) j j q) i j (-q)) j i (-q)) := Lib.hid (by unfold admStep; rw [if_neg huv, hpu, hpv])
        rw [HSA.out] at HST
        rw [show optI (some i) = (i : Int) from rfl, show optI (some j) = (j : Int) from rfl]
        have hiI : (i : Int) < (n6 : Int) := by omega
        have hi0 : (0 : Int) ≤ (i : Int) := by omega
        have hjI : (j : Int) < (n6 : Int) := by omega
        have hj0 : (0 : Int) ≤ (j : Int) := by omega
        clear hpu hpv HSA
        go_upto_region 13 with fail
        obtain ⟨ra, hra⟩ : ∃ ra, A[i]? = some ra := ⟨_, List.getElem?_eq_getElem (by have := HOK.out.len; omega)⟩
        have hral : ra.length = n6 := HOK.out.wid ra (List.mem_of_getElem? hra)
        obtain ⟨gg, cc, vs, xe, hh, c, hx, c0, c1, c2', c3', hv, l1, f1, hne⟩ := HMA.out.elem (i := i) (j := i) hra (by omega)
        rw [hral] at c
        have HH := Lib.hid hh
        have HXX := Lib.hid hx
        have HVV := Lib.hid hv
        have HRA := Lib.hid hra
        have HRL := Lib.hid hral
        have HQS : Hid (qsz (vf ra i) + qsz q + 1 ≤ 35184372088832) := Lib.hid (by have := HOK.out.bd.vf hra (j := i) (by omega); have := HQZ.out; omega)
        have gl := HMA.out.own.top.lt
        have z0 := HBX.out.blk.cell 0
        have z1 := HBX.out.blk.cell 1
        have z2 := HBX.out.blk.cell 2
        have z3 := HBX.out.blk.cell 3
        have zl := HBX.out.blk.lt
        have HB4 := Lib.hid (below_drew (Below.refl we.heap.size we))
        have hixI : (i : Int) < (n6 : Int) := by omega
        have hix0 : (0 : Int) ≤ (i : Int) := by omega
        have hixn : (i : Int).toNat = i := Int.toNat_natCast i
        clear hh hx hv hra hral
        refine wp_region_last (S := fun w' => Below we.heap.size we w') 15 _ (by kernel_rfl) (by kernel_rfl) rfl (below_drew (Below.refl _ _)) (fun hHeld => ?_)
        simp only [List.take_succ_cons, List.take_zero]
        refine tkH 0 rfl (by intro w' _ hcc; go_simp <;> with_reducible rfl) hHeld ?_
        try simp only [Act.put, sA_, sB_, sC_]
        refine tkH 1 rfl (by intro w' _ hcc; go_simp <;> with_reducible rfl) hHeld ?_
        try simp only [Act.put, sA_, sB_, sC_]
        refine tkH 2 rfl (by intro w' _ hcc; go_simp <;> with_reducible rfl) hHeld ?_
        try simp only [Act.put, sA_, sB_, sC_]
        refine tkH 3 rfl (by intro w' _ hcc; go_simp <;> with_reducible rfl) hHeld ?_
        try simp only [Act.put, sA_, sB_, sC_]
        refine tkH 4 rfl (by intro w' _ hcc; go_simp <;> with_reducible rfl) hHeld ?_
        try simp only [Act.put, sA_, sB_, sC_]
        refine tkH 5 rfl (by intro w' _ hcc; go_simp <;> with_reducible rfl) hHeld ?_
        try simp only [Act.put, sA_, sB_, sC_]
        refine tkH 6 rfl (by intro w' _ hcc; go_simp <;> with_reducible rfl) hHeld ?_
        try simp only [Act.put, sA_, sB_, sC_]
        refine tkH 7 rfl (by intro w' _ hcc; go_simp <;> with_reducible rfl) hHeld ?_
        try simp only [Act.put, sA_, sB_, sC_]
        refine tkH 8 rfl (by intro w' _ hcc; go_simp <;> with_reducible rfl) hHeld ?_
        try simp only [Act.put, sA_, sB_, sC_]
        refine tkH 9 rfl (by intro w' _ hcc; go_simp <;> with_reducible rfl) hHeld ?_
        try simp only [Act.put, sA_, sB_, sC_]
        refine tkH 10 rfl (by intro w' _ hcc; go_simp <;> with_reducible rfl) hHeld ?_
        try simp only [Act.put, sA_, sB_, sC_]
        refine tkH 11 rfl (by intro w' _ hcc; go_simp <;> with_reducible rfl) hHeld ?_
        try simp only [Act.put, sA_, sB_, sC_]
        refine tkH 12 rfl (by intro w' _ hcc; go_simp <;> with_reducible rfl) hHeld ?_
        try simp only [Act.put, sA_, sB_, sC_]
        refine stepH 13 (by kernel_rfl) rfl (fun K hK => ?_)
        go_simp
        refine (addV (HVV.out.up HB4.out) (HBX.out.val.up HB4.out) HQS.out).mono ?_
        rintro e w8 ⟨hb8, v8, rfl, h8⟩
        have HB8 : Hid (Below we.heap.size we w8) := Lib.hid (HB4.out.trans (hb8.mono HB4.out.size))
        have H8 := Lib.hid h8
        clear hb8 h8
        go_simp
        refine hK.out _ _ ?_ (fun hHeld => ?_)
        ·exact HB8.out
        clear hK K
        try simp only [Act.put, sA_, sB_, sC_]
        refine tkH 14 rfl (by intro w' _ hcc; go_simp <;> with_reducible rfl) hHeld ?_
        try simp only [Act.put, sA_, sB_, sC_]
        refine wpAnyH_done (by kernel_rfl) ?_ _
        refine lastQ_go (by rfl) ?_
        clear hHeld
        have HM8 := Lib.hid (HMA.out.up HB8.out)
        have HX8 := Lib.hid (HBX.out.up HB8.out)
        clear c c0 c1 c2' c3' l1 f1 hne gl z0 z1 z2 z3 zl HMA HBX HVV HQS HB4
        obtain ⟨c0, c1, c2', c3', l1, f1⟩ := HM8.out.elem2 HH.out HRA.out HXX.out
        go_upto_region 15 with fail
        clear c0 c1 c2' c3' l1 f1
        have HMA := HM8.out.put HH.out HRA.out (j := i) (x := v8) (by rw [HRL.out]; omega) H8.out
        have HBX := HX8.out.put HM8.out HH.out HRA.out (j := i) (x := v8) (by rw [HRL.out]; omega)
        rw [← addAt_row HRA.out] at HMA
        replace HOK : Hid (AdmOk n6 (3 + 8 * k + 2) (addAt A i i q)) := Lib.hid (HOK.out.add (by omega) (by omega) HQZ.out)
        simp only [putV] at HMA HBX
        generalize (((w8.setCell ⟨gg, i * 4, none⟩ _).setCell ⟨gg, i * 4 + 1, none⟩ _).setCell ⟨gg, i * 4 + 2, none⟩ _).setCell ⟨gg, i * 4 + 3, none⟩ _ = wf at *
        replace HMA := Lib.hid HMA
        replace HBX := Lib.hid HBX
        generalize hs.set i _ = hs1 at *
        obtain ⟨A1, hA1⟩ : ∃ A1, addAt A i i q = A1 := ⟨_, rfl⟩
        rw [hA1] at HMA HOK
        have HA1 := Lib.hid hA1
        clear hA1 HM8 HX8 H8 HB8 HH HRA HRL HXX hixI hix0 hixn
        rw [HA1.out] at HST
        obtain ⟨ra, hra⟩ : ∃ ra, A1[j]? = some ra := ⟨_, List.getElem?_eq_getElem (by have := HOK.out.len; omega)⟩
        have hral : ra.length = n6 := HOK.out.wid ra (List.mem_of_getElem? hra)
        obtain ⟨gg, cc, vs, xe, hh, c, hx, c0, c1, c2', c3', hv, l1, f1, hne⟩ := HMA.out.elem (i := j) (j := j) hra (by omega)
        rw [hral] at c
        have HH := Lib.hid hh
        have HXX := Lib.hid hx
        have HVV := Lib.hid hv
        have HRA := Lib.hid hra
        have HRL := Lib.hid hral
        have HQS : Hid (qsz (vf ra j) + qsz q + 1 ≤ 35184372088832) := Lib.hid (by have := HOK.out.bd.vf hra (j := j) (by omega); have := HQZ.out; omega)
        have gl := HMA.out.own.top.lt
        have z0 := HBX.out.blk.cell 0
        have z1 := HBX.out.blk.cell 1
        have z2 := HBX.out.blk.cell 2
        have z3 := HBX.out.blk.cell 3
        have zl := HBX.out.blk.lt
        have HB4 := Lib.hid (below_drew (Below.refl wf.heap.size wf))
        have hixI : (j : Int) < (n6 : Int) := by omega
        have hix0 : (0 : Int) ≤ (j : Int) := by omega
        have hixn : (j : Int).toNat = j := Int.toNat_natCast j
        clear hh hx hv hra hral
        refine wp_region_last (S := fun w' => Below wf.heap.size wf w') 15 _ (by kernel_rfl) (by kernel_rfl) rfl (below_drew (Below.refl _ _)) (fun hHeld => ?_)
        simp only [List.take_succ_cons, List.take_zero]
        refine tkH 0 rfl (by intro w' _ hcc; go_simp <;> with_reducible rfl) hHeld ?_
        try simp only [Act.put, sA_, sB_, sC_]
        refine tkH 1 rfl (by intro w' _ hcc; go_simp <;> with_reducible rfl) hHeld ?_
        try simp only [Act.put, sA_, sB_, sC_]
        refine tkH 2 rfl (by intro w' _ hcc; go_simp <;> with_reducible rfl) hHeld ?_
        try simp only [Act.put, sA_, sB_, sC_]
        refine tkH 3 rfl (by intro w' _ hcc; go_simp <;> with_reducible rfl) hHeld ?_
        try simp only [Act.put, sA_, sB_, sC_]
        refine tkH 4 rfl (by intro w' _ hcc; go_simp <;> with_reducible rfl) hHeld ?_
        try simp only [Act.put, sA_, sB_, sC_]
        refine tkH 5 rfl (by intro w' _ hcc; go_simp <;> with_reducible rfl) hHeld ?_
        try simp only [Act.put, sA_, sB_, sC_]
        refine tkH 6 rfl (by intro w' _ hcc; go_simp <;> with_reducible rfl) hHeld ?_
        try simp only [Act.put, sA_, sB_, sC_]
        refine tkH 7 rfl (by intro w' _ hcc; go_simp <;> with_reducible rfl) hHeld ?_
        try simp only [Act.put, sA_, sB_, sC_]
        refine tkH 8 rfl (by intro w' _ hcc; go_simp <;> with_reducible rfl) hHeld ?_
        try simp only [Act.put, sA_, sB_, sC_]
        refine tkH 9 rfl (by intro w' _ hcc; go_simp <;> with_reducible rfl) hHeld ?_
        try simp only [Act.put, sA_, sB_, sC_]
        refine tkH 10 rfl (by intro w' _ hcc; go_simp <;> with_reducible rfl) hHeld ?_
        try simp only [Act.put, sA_, sB_, sC_]
        refine tkH 11 rfl (by intro w' _ hcc; go_simp <;> with_reducible rfl) hHeld ?_
        try simp only [Act.put, sA_, sB_, sC_]
        refine tkH 12 rfl (by intro w' _ hcc; go_simp <;> with_reducible rfl) hHeld ?_
        try simp only [Act.put, sA_, sB_, sC_]
        refine stepH 13 (by kernel_rfl) rfl (fun K hK => ?_)
        go_simp
        refine (addV (HVV.out.up HB4.out) (HBX.out.val.up HB4.out) HQS.out).mono ?_
        rintro e w8 ⟨hb8, v8, rfl, h8⟩
        have HB8 : Hid (Below wf.heap.size wf w8) := Lib.hid (HB4.out.trans (hb8.mono HB4.out.size))
        have H8 := Lib.hid h8
        clear hb8 h8
        go_simp
        refine hK.out _ _ ?_ (fun hHeld => ?_)
        ·exact HB8.out
        clear hK K
        try simp only [Act.put, sA_, sB_, sC_]
        refine tkH 14 rfl (by intro w' _ hcc; go_simp <;> with_reducible rfl) hHeld ?_
        try simp only [Act.put, sA_, sB_, sC_]
        refine wpAnyH_done (by kernel_rfl) ?_ _
        refine lastQ_go (by rfl) ?_
        clear hHeld
        have HM8 := Lib.hid (HMA.out.up HB8.out)
        have HX8 := Lib.hid (HBX.out.up HB8.out)
        clear c c0 c1 c2' c3' l1 f1 hne gl z0 z1 z2 z3 zl HMA HBX HVV HQS HB4
        obtain ⟨c0, c1, c2', c3', l1, f1⟩ := HM8.out.elem2 HH.out HRA.out HXX.out
        go_upto_region 17 with fail
        clear c0 c1 c2' c3' l1 f1
        have HMA := HM8.out.put HH.out HRA.out (j := j) (x := v8) (by rw [HRL.out]; omega) H8.out
        have HBX := HX8.out.put HM8.out HH.out HRA.out (j := j) (x := v8) (by rw [HRL.out]; omega)
        rw [← addAt_row HRA.out] at HMA
        replace HOK : Hid (AdmOk n6 (3 + 8 * k + 2 + 2) (addAt A1 j j q)) := Lib.hid (HOK.out.add (by omega) (by omega) HQZ.out)
        simp only [putV] at HMA HBX
        generalize (((w8.setCell ⟨gg, j * 4, none⟩ _).setCell ⟨gg, j * 4 + 1, none⟩ _).setCell ⟨gg, j * 4 + 2, none⟩ _).setCell ⟨gg, j * 4 + 3, none⟩ _ = wg at *
        replace HMA := Lib.hid HMA
        replace HBX := Lib.hid HBX
        generalize hs1.set j _ = hs2 at *
        obtain ⟨A2, hA2⟩ : ∃ A2, addAt A1 j j q = A2 := ⟨_, rfl⟩
        rw [hA2] at HMA HOK
        have HA2 := Lib.hid hA2
        clear hA2 HM8 HX8 H8 HB8 HH HRA HRL HXX hixI hix0 hixn
        rw [HA2.out] at HST
        obtain ⟨ra, hra⟩ : ∃ ra, A2[i]? = some ra := ⟨_, List.getElem?_eq_getElem (by have := HOK.out.len; omega)⟩
        obtain ⟨rb, hrb⟩ : ∃ rb, A2[j]? = some rb := ⟨_, List.getElem?_eq_getElem (by have := HOK.out.len; omega)⟩
        have hral : ra.length = n6 := HOK.out.wid ra (List.mem_of_getElem? hra)
        have hrbl : rb.length = n6 := HOK.out.wid rb (List.mem_of_getElem? hrb)
        obtain ⟨g1, k1, vs1, x1, hh1, p, p0, p1, p2, p3, p4, hv1, l1, f1, hne1⟩ := HMA.out.elem (i := i) (j := j) hra (by omega)
        obtain ⟨g2, k2, vs2, x2, hh2, e, e0, e1, e2, e3, e4, hv2, l2, f2, hne2⟩ := HMA.out.elem (i := j) (j := i) hrb (by omega)
        rw [hral] at p
        rw [hrbl] at e
        have HH1 := Lib.hid hh1
        have HH2 := Lib.hid hh2
        have HX1 := Lib.hid p0
        have HX2 := Lib.hid e0
        have HV1 := Lib.hid hv1
        have HV2 := Lib.hid hv2
        have HRA := Lib.hid hra
        have HRB := Lib.hid hrb
        have HRAL := Lib.hid hral
        have HRBL := Lib.hid hrbl
        have HQS1 : Hid (qsz (vf ra j) + qsz q + 1 ≤ 35184372088832) := Lib.hid (by have := HOK.out.bd.vf hra (j := j) (by omega); have := HQZ.out; omega)
        have HQS2 : Hid (qsz (vf rb i) + qsz q + 1 ≤ 35184372088832) := Lib.hid (by have := HOK.out.bd.vf hrb (j := i) (by omega); have := HQZ.out; omega)
        have HIJ := Lib.hid hij
        have gl := HMA.out.own.top.lt
        have z0 := HBX.out.blk.cell 0
        have z1 := HBX.out.blk.cell 1
        have z2 := HBX.out.blk.cell 2
        have z3 := HBX.out.blk.cell 3
        have zl := HBX.out.blk.lt
        have HB4 := Lib.hid (below_drew (Below.refl wg.heap.size wg))
        have hin : (i : Int).toNat = i := Int.toNat_natCast i
        have hjn : (j : Int).toNat = j := Int.toNat_natCast j
        clear hh1 hh2 p0 e0 hv1 hv2 hra hrb hral hrbl hij
        refine wp_region_last3X (S := fun w' => Below wg.heap.size wg w') 28 9 _ _ _ _ (.int .i64 (i : Int)) (by kernel_rfl) (by kernel_rfl) (by kernel_rfl) (by kernel_rfl) rfl (by decide) (by kernel_rfl) rfl rfl rfl (by kernel_rfl) (fun _ _ _ h => h) (by rfl) (fun w' => by go_simp <;> with_reducible rfl) (below_drew (Below.refl _ _)) (fun hHeld => ?_)
        simp only [List.take_succ_cons, List.take_zero]
        try simp only [Act.put, sA_, sB_, sC_]
        refine tkH 0 rfl (by intro w' _ hcc; go_simp <;> with_reducible rfl) hHeld ?_
        try simp only [Act.put, sA_, sB_, sC_]
        refine tkH 1 rfl (by intro w' _ hcc; go_simp <;> with_reducible rfl) hHeld ?_
        try simp only [Act.put, sA_, sB_, sC_]
        refine tkH 2 rfl (by intro w' _ hcc; go_simp <;> with_reducible rfl) hHeld ?_
        try simp only [Act.put, sA_, sB_, sC_]
        refine tkH 3 rfl (by intro w' _ hcc; go_simp <;> with_reducible rfl) hHeld ?_
        try simp only [Act.put, sA_, sB_, sC_]
        refine tkH 4 rfl (by intro w' _ hcc; go_simp <;> with_reducible rfl) hHeld ?_
        try simp only [Act.put, sA_, sB_, sC_]
        refine tkH 5 rfl (by intro w' _ hcc; go_simp <;> with_reducible rfl) hHeld ?_
        try simp only [Act.put, sA_, sB_, sC_]
        refine tkH 6 rfl (by intro w' _ hcc; go_simp <;> with_reducible rfl) hHeld ?_
        try simp only [Act.put, sA_, sB_, sC_]
        refine tkH 7 rfl (by intro w' _ hcc; go_simp <;> with_reducible rfl) hHeld ?_
        try simp only [Act.put, sA_, sB_, sC_]
        refine tkH 8 rfl (by intro w' _ hcc; go_simp <;> with_reducible rfl) hHeld ?_
        try simp only [Act.put, sA_, sB_, sC_]
        refine tkH 10 rfl (by intro w' _ hcc; go_simp <;> with_reducible rfl) hHeld ?_
        try simp only [Act.put, sA_, sB_, sC_]
        refine tkH 11 rfl (by intro w' _ hcc; go_simp <;> with_reducible rfl) hHeld ?_
        try simp only [Act.put, sA_, sB_, sC_]
        refine tkH 12 rfl (by intro w' _ hcc; go_simp <;> with_reducible rfl) hHeld ?_
        try simp only [Act.put, sA_, sB_, sC_]
        refine tkH 13 rfl (by intro w' _ hcc; go_simp <;> with_reducible rfl) hHeld ?_
        try simp only [Act.put, sA_, sB_, sC_]
        refine tkH 14 rfl (by intro w' _ hcc; go_simp <;> with_reducible rfl) hHeld ?_
        try simp only [Act.put, sA_, sB_, sC_]
        refine tkH 15 rfl (by intro w' _ hcc; go_simp <;> with_reducible rfl) hHeld ?_
        try simp only [Act.put, sA_, sB_, sC_]
        refine tkH 16 rfl (by intro w' _ hcc; go_simp <;> with_reducible rfl) hHeld ?_
        try simp only [Act.put, sA_, sB_, sC_]
        refine tkH 17 rfl (by intro w' _ hcc; go_simp <;> with_reducible rfl) hHeld ?_
        try simp only [Act.put, sA_, sB_, sC_]
        refine tkH 19 rfl (by intro w' _ hcc; go_simp <;> with_reducible rfl) hHeld ?_
        try simp only [Act.put, sA_, sB_, sC_]
        refine tkH 20 rfl (by intro w' _ hcc; go_simp <;> with_reducible rfl) hHeld ?_
        try simp only [Act.put, sA_, sB_, sC_]
        refine tkH 21 rfl (by intro w' _ hcc; go_simp <;> with_reducible rfl) hHeld ?_
        try simp only [Act.put, sA_, sB_, sC_]
        refine tkH 22 rfl (by intro w' _ hcc; go_simp <;> with_reducible rfl) hHeld ?_
        try simp only [Act.put, sA_, sB_, sC_]
        refine tkH 23 rfl (by intro w' _ hcc; go_simp <;> with_reducible rfl) hHeld ?_
        try simp only [Act.put, sA_, sB_, sC_]
        refine tkH 24 rfl (by intro w' _ hcc; go_simp <;> with_reducible rfl) hHeld ?_
        try simp only [Act.put, sA_, sB_, sC_]
        refine tkH 25 rfl (by intro w' _ hcc; go_simp <;> with_reducible rfl) hHeld ?_
        try simp only [Act.put, sA_, sB_, sC_]
        refine tkH 26 rfl (by intro w' _ hcc; go_simp <;> with_reducible rfl) hHeld ?_
        try simp only [Act.put, sA_, sB_, sC_]
        refine stepH 18 (by kernel_rfl) rfl (fun K hK => ?_)
        go_simp
        refine (subV (HV1.out.up HB4.out) (HBX.out.val.up HB4.out) HQS1.out).mono ?_
        rintro e8 w8 ⟨hb8, v8, rfl, h8⟩
        have HB8 : Hid (Below wg.heap.size wg w8) := Lib.hid (HB4.out.trans (hb8.mono HB4.out.size))
        have H8 := Lib.hid h8
        clear hb8 h8
        go_simp
        refine hK.out _ _ ?_ (fun hHeld => ?_)
        ·exact HB8.out
        clear hK K
        try simp only [Act.put, sA_, sB_, sC_]
        refine stepH 27 (by kernel_rfl) rfl (fun K hK => ?_)
        go_simp
        refine (subV (HV2.out.up HB8.out) (HBX.out.val.up HB8.out) HQS2.out).mono ?_
        rintro e9 w9 ⟨hb9, v9, rfl, h9⟩
        have HB9 : Hid (Below wg.heap.size wg w9) := Lib.hid (HB8.out.trans (hb9.mono HB8.out.size))
        have H9 := Lib.hid h9
        replace H8 := Lib.hid (H8.out.up hb9)
        clear hb9 h9
        go_simp
        refine hK.out _ _ ?_ (fun hHeld => ?_)
        ·exact HB9.out
        clear hK K
        try simp only [Act.put, sA_, sB_, sC_]
        refine tkH 28 rfl (by intro w' _ hcc; go_simp <;> with_reducible rfl) hHeld ?_
        try simp only [Act.put, sA_, sB_, sC_]
        refine wpAnyH_done (by kernel_rfl) ?_ _
        refine lastQ_go (by rfl) ?_
        clear hHeld
        have HM9 := Lib.hid (HMA.out.up HB9.out)
        clear p p1 p2 p3 p4 l1 f1 hne1 e e1 e2 e3 e4 l2 f2 hne2 gl z0 z1 z2 z3 zl HMA HBX HV1 HV2 HQS1 HQS2 HB4 HB8
        obtain ⟨p1, p2, p3, p4, l1, f1⟩ := HM9.out.elem2 HH1.out HRA.out HX1.out
        go_simp
        have HM10 := HM9.out.put HH1.out HRA.out (j := j) (x := v8) (by rw [HRAL.out]; omega) H8.out
        have H10 := MatS.keepv (x := v8) HM9.out HH1.out HRA.out (j := j) (by rw [HRAL.out]; omega) H9.out
        rw [Rat.sub_eq_add_neg, ← addAt_row HRA.out] at HM10
        have HR10 : Hid ((addAt A2 i j (-q))[j]? = some rb) := Lib.hid (by rw [addAt_row HRA.out, List.getElem?_set_ne HIJ.out]; exact HRB.out)
        have HH10 := Lib.hid ((List.getElem?_set_ne (l := hs2) (a := (⟨some ⟨g1, 0, none⟩, g1, k1, vs1.set j v8⟩ : Mh)) HIJ.out).trans HH2.out)
        replace HOK : Hid (AdmOk n6 (3 + 8 * k + 2 + 2 + 2 + 2) (addAt (addAt A2 i j (-q)) j i (-q))) := Lib.hid ((HOK.out.add (i := i) (j := j) (q := -q) (by omega) (by omega) (by rw [neg_qsz]; exact HQZ.out)).add (by omega) (by omega) (by rw [neg_qsz]; exact HQZ.out))
        simp only [putV] at HM10 H10
        generalize (((w9.setCell ⟨g1, j * 4, none⟩ _).setCell ⟨g1, j * 4 + 1, none⟩ _).setCell ⟨g1, j * 4 + 2, none⟩ _).setCell ⟨g1, j * 4 + 3, none⟩ _ = wh at *
        replace HM10 := Lib.hid HM10
        replace H10 := Lib.hid H10
        generalize addAt A2 i j (-q) = A3 at *
        generalize hs2.set i _ = hs3 at *
        clear p1 p2 p3 p4 l1 f1 HM9 H8 H9 HB9
        obtain ⟨e1, e2, e3, e4, l2, f2⟩ := HM10.out.elem2 HH10.out HR10.out HX2.out
        refine lastQ_go (by rfl) ?_
        go_simp
        refine lastQ_go (by rfl) ?_
        go_wp2_with fail
        go_roundw
        case rel =>
         have HM11 := HM10.out.put HH10.out HR10.out (j := i) (x := v9) (by rw [HRBL.out]; omega) H10.out
         rw [Rat.sub_eq_add_neg, ← addAt_row HR10.out] at HM11
         exact ⟨k + 1, _, _, hlt, val_int HNX.out, HM11, HOK.out.mono (by omega), HST.out.symm⟩
        case measure => exact HNM.out
    ·have hke : k = n4 := by omega
     have HA : Hid (A = admR x) := Lib.hid (by
      have h := HGO.out
      rw [List.drop_eq_nil_of_le (by rw [mB_len]; have := HN4.out; omega)] at h
      exact h)
     rw [HA.out] at HMA HOK
     have hkI : ¬ (k : Int) < (n4 : Int) := by omega
     have hmr : (admR x).length = n6 := HOK.out.len
     have HRM : Hid (RdM wr wr.heap.size (some ⟨ga, 0, none⟩) n6 (admR x)) := Lib.hid (by have h := HMA.out.own.rd; rwa [hmr] at h)
     have hpw : 4 ^ n6 ≤ 4 ^ 8 := Nat.pow_le_pow_right (by decide) h6
     have HIN := Lib.hid (inverse_m (some ⟨ga, 0, none⟩) n6 n6 (3 + 8 * k) (admR x) wr HRM.out (by omega) HOK.out.wid HOK.out.bd (by omega) (Nat.le_trans (Nat.mul_le_mul hpw (Nat.le_refl _)) (by omega)))
     have HML := Lib.hid hmr
     clear HGO HA hke hpw hmr HRM HOK hlt hk
     go_wp2_with fail
     refine HIN.out.mono ?_
     rintro e w1 ⟨hb1, halt⟩
     have HB1 : Hid (Below ga w w1) := Lib.hid (HMA.out.low.trans (hb1.mono (Nat.le_of_lt HMA.out.own.top.lt)))
     have HWL : Hid (ga ≤ wr.heap.size) := Lib.hid (Nat.le_of_lt HMA.out.own.top.lt)
     have HWS : Hid (ga ≤ w1.heap.size) := Lib.hid (by have := HB1.out.size; have := HGA.out; omega)
     have HR1 := Lib.hid ((HR.out.below HB1.out (Nat.le_refl _)).more HWS.out)
     have HG2 := Lib.hid (HG.out.below HB1.out (by have := HG.out.lt; have := HGA.out; omega))
     have HGR : Hid (∀ u, w.grownBy (w1.setCell ⟨g, 7, none⟩ u) (some g)) := Lib.hid fun u => only_setCell (only_of_below (by rw [HGA.out]; exact HB1.out) _) (.inl rfl) u
     have HMB : Hid (∀ u, Blk (w1.setCell ⟨g, 7, none⟩ u) g 123 #[.slice A0 n0 c0, .slice A1 n1 c1, .slice A2 n2 c2, .slice A3 n3 c3, .slice A4 n4 c4, .slice A5 n5 c5, .slice A6 n6 c6, u]) := Lib.hid fun u => HG2.out.set_at (i := 7) u (by simp)
     have HKM : Hid (∀ u, RdMod (w1.setCell ⟨g, 7, none⟩ u) (w1.setCell ⟨g, 7, none⟩ u).heap.size ⟨A0, n0, c0, A1, n1, c1, A2, n2, c2, A3, n3, c3, A4, n4, c4, A5, n5, c5, A6, n6, c6⟩ x) := Lib.hid fun u => HR1.out.keepm (m := ⟨A0, n0, c0, A1, n1, c1, A2, n2, c2, A3, n3, c3, A4, n4, c4, A5, n5, c5, A6, n6, c6⟩) HG2.out (by decide) u
     rw [HML.out] at halt
     have HREG : Hid (mReg x ↔ ¬ (redR (extR (admR x)) n6).2.length < n6) := Lib.hid (by unfold mReg; rw [HN6.out])
     have HINV : Hid (mInv x = (redR (extR (admR x)) n6).1.map (List.drop n6)) := Lib.hid (by unfold mInv; rw [HN6.out])
     have y7 := HG2.out.cell 7
     have yl := HG2.out.lt
     have yf := HG2.out.frozen
     clear hb1 HIN HMA
     rcases halt with ⟨hh, rfl⟩ | ⟨hh, g2, rfl, hg2, hrm⟩
     ·have HNR : Hid (¬ mReg x) := Lib.hid fun h => HREG.out.1 h hh
      clear hh HREG HINV
      go_wp2_with fail
      go_end0
      exact ⟨rfl, HGR.out _, HKM.out _, none, 0, 0, HMB.out _, fun h => absurd h HNR.out⟩
     ·have HRM2 : Hid (∀ u, RdM (w1.setCell ⟨g, 7, none⟩ u) (w1.setCell ⟨g, 7, none⟩ u).heap.size (some ⟨g2, 0, none⟩) n6 (mInv x)) := Lib.hid fun u => by
       rw [HINV.out]
       refine RdM.keepm (m := ⟨A0, n0, c0, A1, n1, c1, A2, n2, c2, A3, n3, c3, A4, n4, c4, A5, n5, c5, A6, n6, c6⟩) hrm HG2.out (fun b off e => ?_) (by decide) u
       injection e with e
       injection e with e1 e2
       have := HG.out.lt
       have := HGA.out
       have := HWL.out
       omega
      clear hh hrm HREG HINV
      go_wp2_with fail
      go_end0
      exact ⟨rfl, HGR.out _, HKM.out _, some ⟨g2, 0, none⟩, n6, n6, HMB.out _, fun h => ⟨HN6.out.symm, HRM2.out _⟩⟩
end
end Go.Proofs.YtakllkkmofdpaaaGreatDoor
