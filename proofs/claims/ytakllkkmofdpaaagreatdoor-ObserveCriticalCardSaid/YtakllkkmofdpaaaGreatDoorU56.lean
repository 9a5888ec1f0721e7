import Derived.Test.YtakllkkmofdpaaaGreatDoorU41
import Derived.Test.YtakllkkmofdpaaaGreatDoorU48
import Derived.Test.YtakllkkmofdpaaaGreatDoorU51
import Derived.Test.YtakllkkmofdpaaaGreatDoorU52
set_option linter.unusedVariables false
set_option linter.unusedSimpArgs false
namespace Go.Proofs.YtakllkkmofdpaaaGreatDoor
section
open Go.ChangeShapes Go.WideShapes Go.ChangeAt Go.RowKit
section
variable {w w' : World} {g : Nat} {t : TypeId} {cs : Array Value}
end
theorem tmodB (a n : Int) (h : 0 < n) : -n < a.tmod n ∧ a.tmod n < n := ⟨Int.lt_tmod_of_pos a h, Int.tmod_lt_of_pos a h⟩
end
section
open Go.ChangeShapes Go.WideShapes Go.ChangeAt Go.RowKit Go.Joins Go.Deep
section
variable {H : Type} {enc : TypeId × Value → H} {w : World} {sp : Nat → Bool}
theorem array4 {α : Type} {xs : Array α} (h : xs.size = 4) : ∃ a b c d, xs = #[a, b, c, d] := by
 rcases xs with ⟨l⟩
 match l, h with
 | [a, b, c, d], _ => exact ⟨a, b, c, d, rfl⟩
set_option maxRecDepth 100000 in
theorem open_mi {r : Reach} {b0 : Nat} {v : Value} {d : DataW H} {p : List MemPlace} (hv : Value.okWide Tryz.prog w r b0 57 v) (h : DataW.Trod enc Tryz.prog w 0 sp true 57 v d p) :
    ∃ x : Mi, v = .agg #[.int .i64 x.kind, .string x.name, .string x.txt, .int .i64 x.wt] ∧ x.txt.size ≤ maxLen := by
 obtain ⟨cs, rfl, hsz⟩ := okWide_struct Tryz.underlying57 hv
 obtain ⟨k0, k1, k2, k3, rfl⟩ := array4 (hsz.trans (by kernel_rfl))
 obtain ⟨fuel, hf⟩ := h
 obtain ⟨x, hx, h1⟩ := open_Mi hf
 simp [Value.cells, Mi.cells] at hx
 refine ⟨x, ?_, h1⟩
 obtain ⟨rfl, rfl, rfl, rfl⟩ := hx
 rfl
end
end
section
theorem wid_sub {n : Nat} {A B : List (List Rat)} (h : Wid n A) (h2 : ∀ a ∈ B, a ∈ A) : Wid n B := fun a ha => h a (h2 a ha)
theorem rk_mems {n : Nat} {A B : List (List Rat)} (hA : Wid n A) (h : ∀ a, a ∈ A ↔ a ∈ B) : rankR A = rankR B :=
 rk_same hA (wid_sub hA fun a ha => (h a).2 ha) fun x => by rw [ker_mem, ker_mem]; exact ⟨fun g a ha => g a ((h a).2 ha), fun g a ha => g a ((h a).1 ha)⟩
theorem mem_split {M : List (List Rat)} {i : Nat} {a : List Rat} (h : M[i]? = some a) : ∀ b, b ∈ M ↔ b ∈ M.eraseIdx i ++ [a] := by
 intro b
 have hlt := (List.getElem?_eq_some_iff.1 h).1
 have hM : M = M.take i ++ a :: M.drop (i + 1) := by
  rw [← List.getElem?_eq_some_iff.1 h |>.2, ← List.drop_eq_getElem_cons hlt, List.take_append_drop]
 rw [List.eraseIdx_eq_take_drop_succ]
 have h2 : b ∈ M ↔ b ∈ M.take i ++ a :: M.drop (i + 1) := by rw [← hM]
 rw [h2]
 simp [or_comm, or_left_comm, or_assoc]
theorem rk_without {n : Nat} {M : List (List Rat)} {i : Nat} {a : List Rat} (h : Wid n M) (hi : M[i]? = some a) : rankR M = rankR (M.eraseIdx i) ∨ rankR M = rankR (M.eraseIdx i) + 1 := by
 have hw : Wid n (M.eraseIdx i) := wid_sub h fun b hb => List.mem_of_mem_eraseIdx hb
 rw [rk_mems h (mem_split hi)]
 exact rk_more hw (h a (List.mem_of_getElem? hi))
theorem rk_twice {n : Nat} {M : List (List Rat)} {i : Nat} {a : List Rat} (h : Wid n M) (hi : M[i]? = some a) (hm : a ∈ M.eraseIdx i) : rankR (M.eraseIdx i) = rankR M := by
 have hw : Wid n (M.eraseIdx i) := wid_sub h fun b hb => List.mem_of_mem_eraseIdx hb
 rw [rk_mems h (mem_split hi)]
 exact ((rk_dep hw (h a (List.mem_of_getElem? hi))).2 fun x hx => ker_mem.1 hx a hm).symm
end
section
open Go.ChangeShapes Go.WideShapes Go.ChangeAt Go.RowKit
theorem cutAtK_len {α : Type} {l : List α} {k : Nat} (h : k < l.length) : (cutAtK l k).length = l.length - 1 := by
 unfold cutAtK
 rw [List.length_append, List.length_take, List.length_drop]; omega
end
section
open Go.ChangeShapes Go.WideShapes Go.ChangeAt Go.RowKit
theorem rowsR_cut {x : Net} {a : List Mi} {k : Nat} : rowsR x (cutAtK a k) = cutAtK (rowsR x a) k := by unfold rowsR cutAtK; rw [List.map_append, List.map_take, List.map_drop]
theorem crit_law {x : Net} {ms : List Mi} (h : mtCk x ms = 0) {k : Nat} {m : Mi} (hk : ms[k]? = some m) (h5 : ms.length ≤ 60) :
    mtCk x (ms ++ [m]) = 0 ∧ k ∉ critR (rowsR x (ms ++ [m])) ∧ ms.length ∉ critR (rowsR x (ms ++ [m])) ∧ mtCk x (cutAtK ms k) = 0 ∧
    (rankR (rowsR x ms) = rankR (rowsR x (cutAtK ms k)) ∨ rankR (rowsR x ms) = rankR (rowsR x (cutAtK ms k)) + 1) ∧ (k ∈ critR (rowsR x ms) ↔ rankR (rowsR x ms) = rankR (rowsR x (cutAtK ms k)) + 1) := by
 have hw := rowsR_wid h
 have hkl := (List.getElem?_eq_some_iff.1 hk).1
 have hmem := List.mem_of_getElem? hk
 have h2 : mtCk x (ms ++ [m]) = 0 := mtCk_sub h (fun a ha => (List.mem_append.1 ha).elim id fun e => by rw [List.mem_singleton.1 e]; exact hmem) (by rw [List.length_append, List.length_singleton]; omega)
 have hw2 := rowsR_wid h2
 have hg : (rowsR x (ms ++ [m]))[k]? = some (rowR x (formR x m).1) := rowsR_get (by rw [List.getElem?_append_left hkl]; exact hk)
 have hg2 : (rowsR x (ms ++ [m]))[ms.length]? = some (rowR x (formR x m).1) := rowsR_get (by rw [List.getElem?_append_right (Nat.le_refl _), Nat.sub_self]; rfl)
 have e1 := rk_twice hw2 hg (by
  rw [← cutAtK_erase, List.mem_iff_getElem?]
  refine ⟨ms.length - 1, ?_⟩
  rw [cutAtK_get, if_neg (by omega), if_pos (by rw [rowsR_len, List.length_append]; simp; omega)]
  rw [show ms.length - 1 + 1 = ms.length by omega]
  exact hg2)
 have e2 := rk_twice hw2 hg2 (by
  rw [← cutAtK_erase, List.mem_iff_getElem?]
  refine ⟨k, ?_⟩
  rw [cutAtK_get, if_pos hkl]
  exact hg)
 have e3 := rk_without hw (rowsR_get hk)
 rw [← cutAtK_erase] at e1 e2 e3
 rw [← rowsR_cut] at e3
 refine ⟨h2, fun hc => ?_, fun hc => ?_, mtCk_sub h (fun a ha => cutAtK_mem ha) (by rw [cutAtK_len hkl]; omega), e3, ?_⟩
 ·have := (crit_mem.1 hc).2; omega
 ·have := (crit_mem.1 hc).2; omega
 ·rw [crit_mem, ← rowsR_cut, rowsR_len]
  constructor
  ·intro h; omega
  ·intro h; omega
end
section
open Go.ChangeShapes Go.WideShapes Go.ChangeAt Go.RowKit
attribute [local go_sem ↓] execOp_call_val
attribute [local go_sem] callVal_func setCell_drewN alloc_drewN sEq_walk
set_option maxRecDepth 100000 in
set_option maxHeartbeats 4000000 in
theorem omore_any (h : NetH) (x : Net) (A : Option Addr) (n c : Nat) (ms0 : List Mi) (m : Mi) (w : World) (r : RdNet w w.heap.size h x) (hm : RdMi w w.heap.size A n ms0) (hmz : m.txt.size ≤ maxLen) (hnc : n ≤ c) (hc : c ≤ 9223372036854775807) (ht : TabOk w) :
    Calls Tryz.prog 7 #[.agg h.cells, .slice A n c, .agg #[.int .i64 m.kind, .string m.name, .string m.txt, .int .i64 m.wt]] w fun e w' => e = .returned (.bool true) ∧ Below w.heap.size w w' := by
 obtain ⟨k, hk6, hkn, hmin⟩ : ∃ k : Nat, k ≤ 6 ∧ k ≤ n ∧ min (n : Int) 6 = (k : Int) := by
  by_cases h : (6 : Int) < (n : Int)
  ·exact ⟨6, by omega, by omega, by omega⟩
  ·exact ⟨n, by omega, by omega, by omega⟩
 have hkc : (k : Int) ≤ (c : Int) := by omega
 have HK6 := Lib.hid hk6
 have hm1 := hm.take hkn
 generalize hms : ms0.take k = ms at *
 clear hms hm
 have K0 : Below w.heap.size w ((w.alloc (.cells h.cells 33)).alloc (.cells #[.int .i64 m.kind, .string m.name, .string m.txt, .int .i64 m.wt] 57)) := ((Below.refl _ _).alloc (Nat.le_refl _) _).alloc (by simp) _
 have HK := Lib.hid K0
 have P0 := Lib.hid ((Blk.new w 33 h.cells).alloc (.cells #[.int .i64 m.kind, .string m.name, .string m.txt, .int .i64 m.wt] 57))
 have P1 : Hid (Blk ((w.alloc (.cells h.cells 33)).alloc (.cells #[.int .i64 m.kind, .string m.name, .string m.txt, .int .i64 m.wt] 57)) (w.heap.size + 1) 57 #[.int .i64 m.kind, .string m.name, .string m.txt, .int .i64 m.wt]) := Lib.hid (Blk.new_ (by simp))
 have HX := Lib.hid (r.up K0)
 have HM := Lib.hid ((hm1.below K0 (Nat.le_refl _)).more K0.size)
 have HT := Lib.hid (ht.up K0)
 have HML : Hid (ms.length = k) := Lib.hid hm1.1
 have HMZ := Lib.hid hmz
 clear K0 hm1 r ht hmz
 obtain ⟨D0, r0, s0, D1, r1, s1, D2, r2, s2, D3, r3, s3, D4, r4, s4, D5, r5, s5⟩ := h
 go_enter Tryz.func7, Tryz.ntmps7
 go_wp2_with fail
 have HSZ : Hid (w.heap.size ≤ ((w.alloc (.cells (NetH.cells ⟨D0, r0, s0, D1, r1, s1, D2, r2, s2, D3, r3, s3, D4, r4, s4, D5, r5, s5⟩) 33)).alloc (.cells #[.int .i64 m.kind, .string m.name, .string m.txt, .int .i64 m.wt] 57)).heap.size) := Lib.hid HK.out.size
 generalize (w.alloc (.cells (NetH.cells ⟨D0, r0, s0, D1, r1, s1, D2, r2, s2, D3, r3, s3, D4, r4, s4, D5, r5, s5⟩) 33)).alloc (.cells #[.int .i64 m.kind, .string m.name, .string m.txt, .int .i64 m.wt] 57) = W at *
 generalize w.heap.size + 1 = p1 at *
 refine (oworks_any W HT.out).mono ?_
 rintro e w1 ⟨rfl, hb1⟩
 have HB1 := Lib.hid (HK.out.trans (hb1.mono HSZ.out))
 replace HX := Lib.hid (HX.out.up hb1)
 replace HM := Lib.hid ((HM.out.below hb1 (Nat.le_refl _)).more hb1.size)
 replace P0 := Lib.hid (P0.out.below hb1 P0.out.lt)
 replace P1 := Lib.hid (P1.out.below hb1 P1.out.lt)
 replace HT := Lib.hid (HT.out.up hb1)
 clear hb1 HK HSZ
 have PNX := P0.out
 obtain ⟨y0, y1, y2, y3, y4, y5, nf, nlt⟩ := net_box (h := ⟨D0, r0, s0, D1, r1, s1, D2, r2, s2, D3, r3, s3, D4, r4, s4, D5, r5, s5⟩) PNX
 dsimp only at y0 y1 y2 y3 y4 y5
 clear PNX
 go_wp2_with fail
 clear y0 y1 y2 y3 y4 y5 nf nlt
 refine (small_any ⟨D0, r0, s0, D1, r1, s1, D2, r2, s2, D3, r3, s3, D4, r4, s4, D5, r5, s5⟩ x A k c ms none 0 0 [] w1 HX.out HM.out (rdVc_0 _ _) (by omega) (by decide)).mono ?_
 rintro e w2 ⟨rfl, hb2⟩
 have HB2 := Lib.hid (HB1.out.trans (hb2.mono HB1.out.size))
 replace HX := Lib.hid (HX.out.up hb2)
 replace HM := Lib.hid ((HM.out.below hb2 (Nat.le_refl _)).more hb2.size)
 replace P0 := Lib.hid (P0.out.below hb2 P0.out.lt)
 replace P1 := Lib.hid (P1.out.below hb2 P1.out.lt)
 replace HT := Lib.hid (HT.out.up hb2)
 clear hb2 HB1
 cases hsm : smallR x ms [] with
 | false =>
  go_wp2_with fail
  go_ret
  exact ⟨rfl, HB2.out⟩
 | true =>
  obtain ⟨h8, hz⟩ := small_parts hsm
  have HZ := Lib.hid hz
  clear hsm hz
  have PNX := P0.out
  obtain ⟨y0, y1, y2, y3, y4, y5, nf, nlt⟩ := net_box (h := ⟨D0, r0, s0, D1, r1, s1, D2, r2, s2, D3, r3, s3, D4, r4, s4, D5, r5, s5⟩) PNX
  dsimp only at y0 y1 y2 y3 y4 y5
  clear PNX
  go_wp2_with fail
  clear y0 y1 y2 y3 y4 y5 nf nlt
  refine (orank_any ⟨D0, r0, s0, D1, r1, s1, D2, r2, s2, D3, r3, s3, D4, r4, s4, D5, r5, s5⟩ x h8 A k c ms w2 HX.out HM.out HZ.out (by omega) HT.out).mono ?_
  rintro e w3 ⟨rfl, hb3⟩
  have HB3 := Lib.hid (HB2.out.trans (hb3.mono HB2.out.size))
  replace HX := Lib.hid (HX.out.up hb3)
  replace HM := Lib.hid ((HM.out.below hb3 (Nat.le_refl _)).more hb3.size)
  replace P0 := Lib.hid (P0.out.below hb3 P0.out.lt)
  replace P1 := Lib.hid (P1.out.below hb3 P1.out.lt)
  replace HT := Lib.hid (HT.out.up hb3)
  clear hb3 HB2
  by_cases hck : mtCk x ms = 0
  ·rw [rankA_eq hck]
   have HCK := Lib.hid hck
   have HLAW := Lib.hid (more_law hck)
   have HNC : Hid (netCk x = 0) := Lib.hid (mtCk_parts hck).1
   clear hck
   obtain ⟨rk, hrk⟩ : ∃ rk, rankR (rowsR x ms) = rk := ⟨_, rfl⟩
   obtain ⟨fl, hfl⟩ : ∃ fl, (freeL x).length = fl := ⟨_, rfl⟩
   rw [hrk, hfl] at HLAW ⊢
   have HRK := Lib.hid hrk
   have HFL := Lib.hid hfl
   clear hrk hfl
   have PNX := P0.out
   obtain ⟨y0, y1, y2, y3, y4, y5, nf, nlt⟩ := net_box (h := ⟨D0, r0, s0, D1, r1, s1, D2, r2, s2, D3, r3, s3, D4, r4, s4, D5, r5, s5⟩) PNX
   dsimp only at y0 y1 y2 y3 y4 y5
   clear PNX
   go_wp2_with fail
   clear y0 y1 y2 y3 y4 y5 nf nlt
   refine (free_any ⟨D0, r0, s0, D1, r1, s1, D2, r2, s2, D3, r3, s3, D4, r4, s4, D5, r5, s5⟩ x h8 w3 HX.out).mono ?_
   rintro e w4 ⟨hb4, hh⟩
   have HB4 := Lib.hid (HB3.out.trans (hb4.mono HB3.out.size))
   replace HX := Lib.hid (HX.out.up hb4)
   replace HM := Lib.hid ((HM.out.below hb4 (Nat.le_refl _)).more hb4.size)
   replace P0 := Lib.hid (P0.out.below hb4 P0.out.lt)
   replace P1 := Lib.hid (P1.out.below hb4 P1.out.lt)
   replace HT := Lib.hid (HT.out.up hb4)
   rcases hh with ⟨h0, _⟩ | ⟨_, A4, c4, rfl, -⟩
   ·exact absurd HNC.out h0
   rw [HFL.out]
   clear hb4 HB3
   have hr1 : ((fl : Int) != (fl : Int)) = false := by simp
   have hr2 : min (fl : Int) (k : Int) = ((min fl k : Nat) : Int) := by omega
   have hr3 : ¬ ((min fl k : Nat) : Int) < (rk : Int) := by have h1 := HLAW.out.1; have h2 := HLAW.out.2.1; have := HML.out; omega
   have hr4 : ¬ (rk : Int) < 0 := by omega
   go_upto_region 12 with fail
   clear hr1 hr2 hr3 hr4
   go_cut [12, 14] (fun v12 v14 wc => v12 = .int .i64 (rankA x (ms ++ [m])).1 ∧ v14 = .int .i64 (rankA x (ms ++ [m])).2.2 ∧ Below w.heap.size w wc)
   case first =>
    have PNX := P0.out
    obtain ⟨y0, y1, y2, y3, y4, y5, nf, nlt⟩ := net_box (h := ⟨D0, r0, s0, D1, r1, s1, D2, r2, s2, D3, r3, s3, D4, r4, s4, D5, r5, s5⟩) PNX
    dsimp only at y0 y1 y2 y3 y4 y5
    clear PNX
    have z0 := P1.out.cell 0
    have z1 := P1.out.cell 1
    have z2 := P1.out.cell 2
    have z3 := P1.out.cell 3
    have zl := P1.out.lt
    refine wp_region_last (S := fun w' => Below w4.heap.size w4 w') 14 _ (by kernel_rfl) (by kernel_rfl) rfl (below_drew (Below.refl _ _)) (fun hHeld => ?_)
    simp only [List.take_succ_cons, List.take_zero]
    refine tkH 0 rfl (by intro w' _ hcc; go_simp <;> with_reducible rfl) hHeld ?_
    try simp only [Act.put, sA_, sB_, sC_]
    refine tkH 2 rfl (by intro w' _ hcc; go_simp <;> with_reducible rfl) hHeld ?_
    try simp only [Act.put, sA_, sB_, sC_]
    refine tkH 4 rfl (by intro w' _ hcc; go_simp <;> with_reducible rfl) hHeld ?_
    try simp only [Act.put, sA_, sB_, sC_]
    clear y0 y1 y2 y3 y4 y5 nf nlt z0 z1 z2 z3 zl
    have HV0 := Lib.hid (below_drew (Below.refl w4.heap.size w4))
    generalize w4.drew = v0 at *
    have HZ2 : Hid (∀ a ∈ ms ++ [m], a.txt.size ≤ maxLen) := Lib.hid fun a ha => (List.mem_append.1 ha).elim (HZ.out a) fun e => by rw [List.mem_singleton.1 e]; exact HMZ.out
    refine stepTwo 1 5 (by kernel_rfl) rfl rfl (fun K hK => ?_) (fun K hK => ?_)
    ·go_simp
     have hz : Below v0.heap.size v0 (v0.alloc (.cells #[] 57)) := (Below.refl _ _).alloc (Nat.le_refl _) _
     have HO1 : Hid (OwnMi (v0.alloc (.cells #[] 57)) v0.heap.size (.slice (some ⟨v0.heap.size, 0, none⟩) 0 0) []) := Lib.hid ownMi_lit0
     have HV1 : Hid (Below w4.heap.size w4 (v0.alloc (.cells #[] 57))) := Lib.hid (HV0.out.trans (hz.mono HV0.out.size))
     have HG0 : Hid (w4.heap.size ≤ v0.heap.size ∧ v0.heap.size < (v0.alloc (.cells #[] 57)).heap.size) := Lib.hid ⟨HV0.out.size, by simp⟩
     have HGS1 := Lib.hid HG0.out.2
     generalize v0.alloc (.cells #[] 57) = v1 at *
     generalize v0.heap.size = g0 at *
     clear hz
     refine hK.out _ _ ?_ (fun hHeld => ?_)
     ·exact HV1.out
     clear hK K
     try simp only [Act.put, sA_, sB_, sC_]
     refine stepTwo 3 5 (by kernel_rfl) rfl rfl (fun K hK => ?_) (fun K hK => ?_)
     ·refine ite_go (by rfl) ?_
      refine wp_appMi (.tmp 68) (.tmp 69) 52 rfl g0 Tryz.underlying52 (.slice (some ⟨g0, 0, none⟩) 0 0) [] rfl HO1.out A k c ms rfl ((HM.out.below HV1.out (Nat.le_refl _)).more HV1.out.size) ?k1 ?k2 k ?k3 ?_
      case k1 => have := HK6.out; simp only [List.length_nil]; omega
      case k2 => have := HGS1.out; omega
      case k3 => rw [List.nil_append]; exact HM.out.1
      intro Ay cy v2 ho hb hg
      have HO2 : Hid (OwnMi v2 g0 (.slice Ay k cy) ms) := Lib.hid ho
      have HV2 : Hid (Below w4.heap.size w4 v2) := Lib.hid (HV1.out.trans (hb.mono HG0.out.1))
      have HGS2 : Hid (g0 < v2.heap.size) := Lib.hid (by have := HGS1.out; have := hb.size; omega)
      clear ho hb hg
      refine hK.out _ _ ?_ (fun hHeld => ?_)
      ·exact HV2.out
      clear hK K
      try simp only [Act.put, sA_, sB_, sC_]
      refine stepH 5 (by kernel_rfl) rfl (fun K hK => ?_)
      go_simp
      have hz : Below v2.heap.size v2 (v2.alloc (.cells #[.int .i64 m.kind, .string m.name, .string m.txt, .int .i64 m.wt] 57)) := (Below.refl _ _).alloc (Nat.le_refl _) _
      have HL3 := Lib.hid (Blk.new v2 57 #[.int .i64 m.kind, .string m.name, .string m.txt, .int .i64 m.wt])
      have HV3 : Hid (Below w4.heap.size w4 (v2.alloc (.cells #[.int .i64 m.kind, .string m.name, .string m.txt, .int .i64 m.wt] 57))) := Lib.hid (HV2.out.trans (hz.mono HV2.out.size))
      have HO3 := Lib.hid (HO2.out.keep hz)
      have HGS3 : Hid (g0 < (v2.alloc (.cells #[.int .i64 m.kind, .string m.name, .string m.txt, .int .i64 m.wt] 57)).heap.size) := Lib.hid (by have := HGS2.out; have := hz.size; omega)
      generalize v2.alloc (.cells #[.int .i64 m.kind, .string m.name, .string m.txt, .int .i64 m.wt] 57) = v3 at *
      generalize v2.heap.size = gl at *
      clear hz
      refine hK.out _ _ ?_ (fun hHeld => ?_)
      ·exact HV3.out
      clear hK K
      try simp only [Act.put, sA_, sB_, sC_]
      refine stepH 6 (by kernel_rfl) rfl (fun K hK => ?_)
      refine ite_go (by rfl) ?_
      refine wp_appMi (.tmp 70) (.tmp 72) 52 rfl g0 Tryz.underlying52 (.slice Ay k cy) ms rfl HO3.out (some ⟨gl, 0, none⟩) 1 1 [m] rfl (rdMi_blk HL3.out) ?k1 ?k2 (k + 1) ?k3 ?_
      case k1 => have := HK6.out; have := HM.out.1; omega
      case k2 => have := HGS3.out; omega
      case k3 => rw [List.length_append, HM.out.1]; rfl
      intro Az cz v4 ho hb hg
      have HO4 := Lib.hid (ho.mono HG0.out.1)
      have HV4 : Hid (Below w4.heap.size w4 v4) := Lib.hid (HV3.out.trans (hb.mono HG0.out.1))
      clear ho hb hg
      refine hK.out _ _ ?_ (fun hHeld => ?_)
      ·exact HV4.out
      clear hK K
      try simp only [Act.put, sA_, sB_, sC_]
      refine stepH 7 (by kernel_rfl) rfl (fun K hK => ?_)
      go_simp
      obtain ⟨hmm, hm1, hm2⟩ := HO4.out.rd2
      refine (orank_any ⟨D0, r0, s0, D1, r1, s1, D2, r2, s2, D3, r3, s3, D4, r4, s4, D5, r5, s5⟩ x h8 Az (k + 1) cz (ms ++ [m]) v4 (HX.out.up HV4.out) hmm HZ2.out (by omega) (HT.out.up HV4.out)).mono ?_
      rintro e w9 ⟨rfl, hb9⟩
      have HB9 : Hid (Below w4.heap.size w4 w9) := Lib.hid (HV4.out.trans (hb9.mono HV4.out.size))
      clear hb9 hmm hm1 hm2 HV4 HO4
      go_simp
      refine hK.out _ _ ?_ (fun hHeld => ?_)
      ·exact HB9.out
      clear hK K
      try simp only [Act.put, sA_, sB_, sC_]
      refine tkH 8 rfl (by intro w' _ hcc; go_simp <;> with_reducible rfl) hHeld ?_
      try simp only [Act.put, sA_, sB_, sC_]
      refine tkH 9 rfl (by intro w' _ hcc; go_simp <;> with_reducible rfl) hHeld ?_
      try simp only [Act.put, sA_, sB_, sC_]
      refine tkH 10 rfl (by intro w' _ hcc; go_simp <;> with_reducible rfl) hHeld ?_
      try simp only [Act.put, sA_, sB_, sC_]
      refine tkH 11 rfl (by intro w' _ hcc; go_simp <;> with_reducible rfl) hHeld ?_
      try simp only [Act.put, sA_, sB_, sC_]
      refine tkH 12 rfl (by intro w' _ hcc; go_simp <;> with_reducible rfl) hHeld ?_
      try simp only [Act.put, sA_, sB_, sC_]
      refine tkH 13 rfl (by intro w' _ hcc; go_simp <;> with_reducible rfl) hHeld ?_
      try simp only [Act.put, sA_, sB_, sC_]
      refine wpAnyH_done (by kernel_rfl) ?_ _
      refine lastQ_go (by rfl) ?_
      clear hHeld
      go_wp2_with fail
      go_meet
      case rel => exact ⟨rfl, rfl, HB4.out.trans (HB9.out.mono HB4.out.size)⟩
     ·go_simp
      have hz : Below v1.heap.size v1 (v1.alloc (.cells #[.int .i64 m.kind, .string m.name, .string m.txt, .int .i64 m.wt] 57)) := (Below.refl _ _).alloc (Nat.le_refl _) _
      have HL2 := Lib.hid (Blk.new v1 57 #[.int .i64 m.kind, .string m.name, .string m.txt, .int .i64 m.wt])
      have HV2 : Hid (Below w4.heap.size w4 (v1.alloc (.cells #[.int .i64 m.kind, .string m.name, .string m.txt, .int .i64 m.wt] 57))) := Lib.hid (HV1.out.trans (hz.mono HV1.out.size))
      have HO2 := Lib.hid (HO1.out.keep hz)
      have HGS2 : Hid (g0 < (v1.alloc (.cells #[.int .i64 m.kind, .string m.name, .string m.txt, .int .i64 m.wt] 57)).heap.size) := Lib.hid (by have := HGS1.out; have := hz.size; omega)
      have HNE : Hid (v1.heap.size ≠ g0) := Lib.hid (by have := HGS1.out; omega)
      generalize v1.alloc (.cells #[.int .i64 m.kind, .string m.name, .string m.txt, .int .i64 m.wt] 57) = v2 at *
      generalize v1.heap.size = gl at *
      clear hz
      refine hK.out _ _ ?_ (fun hHeld => ?_)
      ·exact HV2.out
      clear hK K
      try simp only [Act.put, sA_, sB_, sC_]
      refine stepH 3 (by kernel_rfl) rfl (fun K hK => ?_)
      refine ite_go (by rfl) ?_
      refine wp_appMi (.tmp 68) (.tmp 69) 52 rfl g0 Tryz.underlying52 (.slice (some ⟨g0, 0, none⟩) 0 0) [] rfl HO2.out A k c ms rfl ((HM.out.below HV2.out (Nat.le_refl _)).more HV2.out.size) ?k1 ?k2 k ?k3 ?_
      case k1 => have := HK6.out; simp only [List.length_nil]; omega
      case k2 => have := HGS2.out; omega
      case k3 => rw [List.nil_append]; exact HM.out.1
      intro Ay cy v3 ho hb hg
      have HO3 : Hid (OwnMi v3 g0 (.slice Ay k cy) ms) := Lib.hid ho
      have HV3 : Hid (Below w4.heap.size w4 v3) := Lib.hid (HV2.out.trans (hb.mono HG0.out.1))
      have HGS3 : Hid (g0 < v3.heap.size) := Lib.hid (by have := HGS2.out; have := hb.size; omega)
      have HL3 := Lib.hid (HL2.out.grown hg (fun e => HNE.out (by simpa [Value.ownBlock] using e)))
      clear ho hb hg
      refine hK.out _ _ ?_ (fun hHeld => ?_)
      ·exact HV3.out
      clear hK K
      try simp only [Act.put, sA_, sB_, sC_]
      refine stepH 6 (by kernel_rfl) rfl (fun K hK => ?_)
      refine ite_go (by rfl) ?_
      refine wp_appMi (.tmp 70) (.tmp 72) 52 rfl g0 Tryz.underlying52 (.slice Ay k cy) ms rfl HO3.out (some ⟨gl, 0, none⟩) 1 1 [m] rfl (rdMi_blk HL3.out) ?k1 ?k2 (k + 1) ?k3 ?_
      case k1 => have := HK6.out; have := HM.out.1; omega
      case k2 => have := HGS3.out; omega
      case k3 => rw [List.length_append, HM.out.1]; rfl
      intro Az cz v4 ho hb hg
      have HO4 := Lib.hid (ho.mono HG0.out.1)
      have HV4 : Hid (Below w4.heap.size w4 v4) := Lib.hid (HV3.out.trans (hb.mono HG0.out.1))
      clear ho hb hg
      refine hK.out _ _ ?_ (fun hHeld => ?_)
      ·exact HV4.out
      clear hK K
      try simp only [Act.put, sA_, sB_, sC_]
      refine stepH 7 (by kernel_rfl) rfl (fun K hK => ?_)
      go_simp
      obtain ⟨hmm, hm1, hm2⟩ := HO4.out.rd2
      refine (orank_any ⟨D0, r0, s0, D1, r1, s1, D2, r2, s2, D3, r3, s3, D4, r4, s4, D5, r5, s5⟩ x h8 Az (k + 1) cz (ms ++ [m]) v4 (HX.out.up HV4.out) hmm HZ2.out (by omega) (HT.out.up HV4.out)).mono ?_
      rintro e w9 ⟨rfl, hb9⟩
      have HB9 : Hid (Below w4.heap.size w4 w9) := Lib.hid (HV4.out.trans (hb9.mono HV4.out.size))
      clear hb9 hmm hm1 hm2 HV4 HO4
      go_simp
      refine hK.out _ _ ?_ (fun hHeld => ?_)
      ·exact HB9.out
      clear hK K
      try simp only [Act.put, sA_, sB_, sC_]
      refine tkH 8 rfl (by intro w' _ hcc; go_simp <;> with_reducible rfl) hHeld ?_
      try simp only [Act.put, sA_, sB_, sC_]
      refine tkH 9 rfl (by intro w' _ hcc; go_simp <;> with_reducible rfl) hHeld ?_
      try simp only [Act.put, sA_, sB_, sC_]
      refine tkH 10 rfl (by intro w' _ hcc; go_simp <;> with_reducible rfl) hHeld ?_
      try simp only [Act.put, sA_, sB_, sC_]
      refine tkH 11 rfl (by intro w' _ hcc; go_simp <;> with_reducible rfl) hHeld ?_
      try simp only [Act.put, sA_, sB_, sC_]
      refine tkH 12 rfl (by intro w' _ hcc; go_simp <;> with_reducible rfl) hHeld ?_
      try simp only [Act.put, sA_, sB_, sC_]
      refine tkH 13 rfl (by intro w' _ hcc; go_simp <;> with_reducible rfl) hHeld ?_
      try simp only [Act.put, sA_, sB_, sC_]
      refine wpAnyH_done (by kernel_rfl) ?_ _
      refine lastQ_go (by rfl) ?_
      clear hHeld
      go_wp2_with fail
      go_meet
      case rel => exact ⟨rfl, rfl, HB4.out.trans (HB9.out.mono HB4.out.size)⟩
    ·go_simp
     have hz : Below v0.heap.size v0 (v0.alloc (.cells #[.int .i64 m.kind, .string m.name, .string m.txt, .int .i64 m.wt] 57)) := (Below.refl _ _).alloc (Nat.le_refl _) _
     have HL1 := Lib.hid (Blk.new v0 57 #[.int .i64 m.kind, .string m.name, .string m.txt, .int .i64 m.wt])
     have HV1 : Hid (Below w4.heap.size w4 (v0.alloc (.cells #[.int .i64 m.kind, .string m.name, .string m.txt, .int .i64 m.wt] 57))) := Lib.hid (HV0.out.trans (hz.mono HV0.out.size))
     generalize v0.alloc (.cells #[.int .i64 m.kind, .string m.name, .string m.txt, .int .i64 m.wt] 57) = v1 at *
     generalize v0.heap.size = gl at *
     clear hz
     refine hK.out _ _ ?_ (fun hHeld => ?_)
     ·exact HV1.out
     clear hK K
     try simp only [Act.put, sA_, sB_, sC_]
     refine stepH 1 (by kernel_rfl) rfl (fun K hK => ?_)
     go_simp
     have hz : Below v1.heap.size v1 (v1.alloc (.cells #[] 57)) := (Below.refl _ _).alloc (Nat.le_refl _) _
     have HO2 : Hid (OwnMi (v1.alloc (.cells #[] 57)) v1.heap.size (.slice (some ⟨v1.heap.size, 0, none⟩) 0 0) []) := Lib.hid ownMi_lit0
     have HV2 : Hid (Below w4.heap.size w4 (v1.alloc (.cells #[] 57))) := Lib.hid (HV1.out.trans (hz.mono HV1.out.size))
     have HG0 : Hid (w4.heap.size ≤ v1.heap.size ∧ v1.heap.size < (v1.alloc (.cells #[] 57)).heap.size) := Lib.hid ⟨HV1.out.size, by simp⟩
     have HGS2 := Lib.hid HG0.out.2
     have HL2 := Lib.hid (HL1.out.below hz HL1.out.lt)
     have HNE : Hid (gl ≠ v1.heap.size) := Lib.hid (by have := HL1.out.lt; omega)
     generalize v1.alloc (.cells #[] 57) = v2 at *
     generalize v1.heap.size = g0 at *
     clear hz
     refine hK.out _ _ ?_ (fun hHeld => ?_)
     ·exact HV2.out
     clear hK K
     try simp only [Act.put, sA_, sB_, sC_]
     refine stepH 3 (by kernel_rfl) rfl (fun K hK => ?_)
     refine ite_go (by rfl) ?_
     refine wp_appMi (.tmp 68) (.tmp 69) 52 rfl g0 Tryz.underlying52 (.slice (some ⟨g0, 0, none⟩) 0 0) [] rfl HO2.out A k c ms rfl ((HM.out.below HV2.out (Nat.le_refl _)).more HV2.out.size) ?k1 ?k2 k ?k3 ?_
     case k1 => have := HK6.out; simp only [List.length_nil]; omega
     case k2 => have := HGS2.out; omega
     case k3 => rw [List.nil_append]; exact HM.out.1
     intro Ay cy v3 ho hb hg
     have HO3 : Hid (OwnMi v3 g0 (.slice Ay k cy) ms) := Lib.hid ho
     have HV3 : Hid (Below w4.heap.size w4 v3) := Lib.hid (HV2.out.trans (hb.mono HG0.out.1))
     have HGS3 : Hid (g0 < v3.heap.size) := Lib.hid (by have := HGS2.out; have := hb.size; omega)
     have HL3 := Lib.hid (HL2.out.grown hg (fun e => HNE.out (by simpa [Value.ownBlock] using e)))
     clear ho hb hg
     refine hK.out _ _ ?_ (fun hHeld => ?_)
     ·exact HV3.out
     clear hK K
     try simp only [Act.put, sA_, sB_, sC_]
     refine stepH 6 (by kernel_rfl) rfl (fun K hK => ?_)
     refine ite_go (by rfl) ?_
     refine wp_appMi (.tmp 70) (.tmp 72) 52 rfl g0 Tryz.underlying52 (.slice Ay k cy) ms rfl HO3.out (some ⟨gl, 0, none⟩) 1 1 [m] rfl (rdMi_blk HL3.out) ?k1 ?k2 (k + 1) ?k3 ?_
     case k1 => have := HK6.out; have := HM.out.1; omega
     case k2 => have := HGS3.out; omega
     case k3 => rw [List.length_append, HM.out.1]; rfl
     intro Az cz v4 ho hb hg
     have HO4 := Lib.hid (ho.mono HG0.out.1)
     have HV4 : Hid (Below w4.heap.size w4 v4) := Lib.hid (HV3.out.trans (hb.mono HG0.out.1))
     clear ho hb hg
     refine hK.out _ _ ?_ (fun hHeld => ?_)
     ·exact HV4.out
     clear hK K
     try simp only [Act.put, sA_, sB_, sC_]
     refine stepH 7 (by kernel_rfl) rfl (fun K hK => ?_)
     go_simp
     obtain ⟨hmm, hm1, hm2⟩ := HO4.out.rd2
     refine (orank_any ⟨D0, r0, s0, D1, r1, s1, D2, r2, s2, D3, r3, s3, D4, r4, s4, D5, r5, s5⟩ x h8 Az (k + 1) cz (ms ++ [m]) v4 (HX.out.up HV4.out) hmm HZ2.out (by omega) (HT.out.up HV4.out)).mono ?_
     rintro e w9 ⟨rfl, hb9⟩
     have HB9 : Hid (Below w4.heap.size w4 w9) := Lib.hid (HV4.out.trans (hb9.mono HV4.out.size))
     clear hb9 hmm hm1 hm2 HV4 HO4
     go_simp
     refine hK.out _ _ ?_ (fun hHeld => ?_)
     ·exact HB9.out
     clear hK K
     try simp only [Act.put, sA_, sB_, sC_]
     refine tkH 8 rfl (by intro w' _ hcc; go_simp <;> with_reducible rfl) hHeld ?_
     try simp only [Act.put, sA_, sB_, sC_]
     refine tkH 9 rfl (by intro w' _ hcc; go_simp <;> with_reducible rfl) hHeld ?_
     try simp only [Act.put, sA_, sB_, sC_]
     refine tkH 10 rfl (by intro w' _ hcc; go_simp <;> with_reducible rfl) hHeld ?_
     try simp only [Act.put, sA_, sB_, sC_]
     refine tkH 11 rfl (by intro w' _ hcc; go_simp <;> with_reducible rfl) hHeld ?_
     try simp only [Act.put, sA_, sB_, sC_]
     refine tkH 12 rfl (by intro w' _ hcc; go_simp <;> with_reducible rfl) hHeld ?_
     try simp only [Act.put, sA_, sB_, sC_]
     refine tkH 13 rfl (by intro w' _ hcc; go_simp <;> with_reducible rfl) hHeld ?_
     try simp only [Act.put, sA_, sB_, sC_]
     refine wpAnyH_done (by kernel_rfl) ?_ _
     refine lastQ_go (by rfl) ?_
     clear hHeld
     go_wp2_with fail
     go_meet
     case rel => exact ⟨rfl, rfl, HB4.out.trans (HB9.out.mono HB4.out.size)⟩
   case rest =>
    obtain ⟨rfl, rfl, hbc⟩ := hcut
    have HBC := Lib.hid hbc
    clear hbc
    by_cases hck2 : mtCk x (ms ++ [m]) = 0
    ·rw [rankA_eq hck2]
     rcases HLAW.out.2.2 m hck2 with hl | hl
     ·rw [hl]
      go_wp2_with fail
      go_ret
      exact ⟨rfl, HBC.out⟩
     ·rw [hl]
      have hw : IntKind.i64.wrap ((rk : Int) + 1) = (rk : Int) + 1 := wrap_i64 (by omega) (by have h2 := HLAW.out.2.1; have := HML.out; have := HK6.out; omega)
      have hne : (((rk + 1 : Nat) : Int) == (rk : Int)) = false := by simp; omega
      have heq : (((rk + 1 : Nat) : Int) == (rk : Int) + 1) = true := by simp
      have e1 : ((rk + 1 : Nat) : Int) = (rk : Int) + 1 := by omega
      rw [e1] at hne heq ⊢
      go_wp2_with fail
      go_ret
      exact ⟨rfl, HBC.out⟩
    ·rw [rankA_bad hck2]
     have hckB : (mtCk x (ms ++ [m]) != 0) = true := by simp [hck2]
     go_wp2_with fail
     go_ret
     exact ⟨rfl, HBC.out⟩
  ·rw [rankA_bad hck]
   have hckB : (mtCk x ms != 0) = true := by simp [hck]
   go_wp2_with fail
   go_ret
   exact ⟨rfl, HB3.out⟩
end
end Go.Proofs.YtakllkkmofdpaaaGreatDoor
