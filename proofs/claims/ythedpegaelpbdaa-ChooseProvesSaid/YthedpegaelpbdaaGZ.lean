/- choose.isWay: the walk. -/
import Derived.Test.YthedpegaelpbdaaGT
import Derived.Test.YthedpegaelpbdaaRL2
namespace Go.Proofs.Ythedpegaelpbdaa
open Go.ChangeShapes Go.WideShapes Go.ChangeAt Go.RowKit
set_option linter.unusedVariables false
attribute [local go_sem ↓] execOp_call_val
attribute [local go_sem] callVal_func setCell_drewN alloc_drewN sEq_walk

def bools (zs : List Bool) : List Value := zs.map Value.bool
theorem bools_one (zs : List Bool) : ∀ u ∈ bools zs, u.oneCell' = true := by
  intro u hu
  simp only [bools, List.mem_map] at hu
  obtain ⟨z, _, rfl⟩ := hu
  rfl
set_option maxHeartbeats 1000000 in
theorem cloneB (b off n c : Nat) (zs : List Bool) (w : World) (hr : Rd w w.heap.size 1 (some ⟨b, off, none⟩) n (bools zs)) (h0 : 0 < n) (hn : n ≤ 65536) :
    Calls Try.prog 84 #[.slice (some ⟨b, off, none⟩) n c] w fun e w' => ∃ v, e = .returned v ∧ w'.ownsRow w.heap.size 4 1 v n (bools zs) ∧ Below w.heap.size w w' := by
  obtain ⟨i0, hi0, hz0, hz1, hz2⟩ := info_parts info_bool
  have h1 := fun (w : World) => Go.run_eql_slice_nil (P := Try.prog) w 105 4 (some ⟨b, off, none⟩) n c Try.underlying105
  obtain ⟨b', off', he, hlt, hc⟩ := hr.2 h0
  injection he with he
  injection he with e1 e2
  subst e1; subst e2
  have HR := Lib.hid hr
  have HC := Lib.hid hc
  clear hr hc
  go_enter Try.func84, Try.ntmps84
  go_wp2_with (at_builtin; refine wpList_append_own_at _ rfl (.tmp 5) (.tmp 6) _ rfl w.heap.size 4 i0 _ 1 1 Try.underlying105 hi0 hz0 hz1 hz2 rfl (by omega) (.slice (some ⟨w.heap.size, 0, none⟩) 0 0) 0 [] rfl (own_nil _ _ _) ⟨b, off, none⟩ n c (bools zs) rfl ?c0 ?c1 (bools_one zs) ?c2 ?c3 ?c4 ?_)
  case c0 => have := HR.out.1; omega
  case c1 => intro j u hu; exact HC.out j u hu
  case c2 => simp only [maxLen]; omega
  case c3 => omega
  intro v1 w1 hown1 hg1 hnil1 hat1
  go_wp2
  go_ret
  refine ⟨v1, rfl, by simpa using hown1, ?_⟩
  have k1 : Below w.heap.size w (w.alloc (.cells #[] 4)) := (Below.refl _ _).alloc (Nat.le_refl _) _
  exact k1.grown hg1 (by simp) (fun k hk => by simp [Value.ownBlock] at hk; omega)
/-- what the first k edges do in one step -/
def wstK (es : List Ed) (nm : ByteArray) (at_ : Nat → Bool) (k v : Nat) : Bool := (es.take k).any fun e => decide (e.name = nm) && ((decide (e.b = v) && at_ e.a) || (decide (e.a = v) && at_ e.b))
theorem wstK_zero (es : List Ed) (nm : ByteArray) (at_ : Nat → Bool) (v : Nat) : wstK es nm at_ 0 v = false := rfl
theorem wstK_all (es : List Ed) (nm : ByteArray) (at_ : Nat → Bool) (v : Nat) : wstK es nm at_ es.length v = wstep es nm at_ v := by unfold wstK wstep; rw [List.take_length]
theorem wstK_succ {es : List Ed} {nm : ByteArray} {at_ : Nat → Bool} {k v : Nat} {e : Ed} (h : es[k]? = some e) : wstK es nm at_ (k + 1) v = (wstK es nm at_ k v || (sEq e.name nm && ((decide (e.b = v) && at_ e.a) || (decide (e.a = v) && at_ e.b)))) := by
  unfold wstK
  rw [List.take_add_one, h, List.any_append]
  simp [sEq]
/-- a list of bools that reads as a function -/
def LsF (n : Nat) (l : List Bool) (f : Nat → Bool) : Prop := l.length = n ∧ ∀ v, v < n → l.getD v false = f v
theorem LsF.set {n : Nat} {l : List Bool} {f g : Nat → Bool} (h : LsF n l f) (k : Nat) (b : Bool) (hg : ∀ v, v < n → g v = if v = k then b else f v) : LsF n (l.set k b) g := by
  refine ⟨by simpa using h.1, fun v hv => ?_⟩
  rw [hg v hv, List.getD_eq_getElem?_getD, List.getElem?_set]
  by_cases e : k = v
  · subst e; simp [h.1, hv]
  · rw [if_neg e, if_neg (fun h => e h.symm), ← List.getD_eq_getElem?_getD, h.2 v hv]
theorem LsF.step {n : Nat} {nxt cur : List Bool} {es : List Ed} {nm : ByteArray} {f : Nat → Bool} {j : Nat} {e : Ed} (h : LsF n nxt (wstK es nm f j)) (he : es[j]? = some e) (hse : sEq e.name nm = true) (ha : e.a < n) (hb : e.b < n) (hab : e.a ≠ e.b) (hc : LsF n cur f) :
    LsF n ((nxt.set e.b (nxt.getD e.b false || cur.getD e.a false)).set e.a (nxt.getD e.a false || cur.getD e.b false)) (wstK es nm f (j + 1)) := by
  rw [h.2 _ hb, h.2 _ ha, hc.2 _ ha, hc.2 _ hb]
  refine (h.set e.b (wstK es nm f j e.b || f e.a) (g := fun v => if v = e.b then (wstK es nm f j e.b || f e.a) else wstK es nm f j v) (fun v _ => rfl)).set e.a _ fun v hv => ?_
  rw [wstK_succ he, hse]
  by_cases h1 : v = e.a
  · subst h1
    simp [Ne.symm hab]
  · by_cases h2 : v = e.b
    · subst h2; simp [h1, Ne.symm h1]
    · simp [h1, h2, Ne.symm h1, Ne.symm h2]
theorem bool_at {w : World} {g : Nat} {t : TypeId} {xs : List Bool} (h : Blk w g t (bools xs).toArray) {i : Nat} (hi : i < xs.length) : w.cell? ⟨g, i, none⟩ = some (.bool (xs.getD i false)) := by
  rw [h.cell, List.getElem?_toArray]
  unfold bools
  rw [List.getElem?_map, List.getD_eq_getElem?_getD, List.getElem?_eq_getElem hi]; rfl
theorem blk_bset {w : World} {g : Nat} {t : TypeId} {xs : List Bool} (h : Blk w g t (bools xs).toArray) (i : Nat) (b : Bool) : Blk (w.setCell ⟨g, i, none⟩ (.bool b)) g t (bools (xs.set i b)).toArray := by
  have h1 := h.set_ i (.bool b)
  rw [show (bools xs).toArray.setIfInBounds i (.bool b) = (bools (xs.set i b)).toArray from by unfold bools; rw [List.setIfInBounds_toArray, List.map_set]] at h1
  exact h1
def IswP (es : List Ed) (src : List Bool) (place : Nat) (l : List ByteArray) (w : World) (e : Ending) (w' : World) : Prop := Below w.heap.size w w' ∧ e = .returned (.bool (wgo es l (fun v => src.getD v false) place))
set_option maxRecDepth 100000 in
set_option maxHeartbeats 8000000 in
theorem isWay_any (p g : Nat) (es : List Ed) (place : Nat) (v : Value) (src : List Bool) (L : Option Addr) (ln lc : Nat) (l : List ByteArray) (w : World) (hF : FdW w p g es place v src) (hL : RdStr w w.heap.size L ln l)
    (ok : ∀ e ∈ es, EdOk src.length e) (hp : place < src.length) (hn : src.length ≤ 100) (he : es.length ≤ 100) (hln : ln ≤ 9223372036854775807) :
    Calls Try.prog 44 #[.pointer (some ⟨p, 0, none⟩), .slice L ln lc] w (IswP es src place l w) := by
  have HP : Hid (∀ e w', IswP es src place l w e w' = (Below w.heap.size w w' ∧ e = .returned (.bool (wgo es l (fun v => src.getD v false) place)))) := Lib.hid fun _ _ => rfl
  have HF := Lib.hid hF
  have HL := Lib.hid hL
  have HLL := Lib.hid hL.1
  have HOK := Lib.hid ok
  obtain ⟨A, c, hv, hI⟩ := hF.is
  subst hv
  have f2 := hF.qf.cell 2
  have f3 := hF.qf.cell 3
  have hplt := hF.qf.lt
  have hsl0 : 0 < src.length := by omega
  have HRS : Hid (Rd w w.heap.size 1 (some ⟨g, 0, none⟩) src.length (bools src)) := Lib.hid ⟨by simp [bools], fun h0 => ⟨g, 0, rfl, hF.qg.lt, fun j u hu => by
    rw [show (⟨g, 0 + j, none⟩ : Addr) = ⟨g, j, none⟩ from by simp, hF.qg.cell j]
    simpa [bools] using hu⟩⟩
  have hmk : ∀ w : World, (Instr.makeSlice 105 (.int .i64 (src.length : Int)) (.int .i64 (src.length : Int))).run Try.prog w = .ok (.slice (some ⟨w.heap.size, 0, none⟩) src.length src.length) (w.alloc (.cells (madeCells #[.bool false] src.length) 4)) :=
    fun w => run_make_row' (P := Try.prog) 105 4 (.bool false) 1 Try.underlying105 info_bool rfl .i64 .i64 src.length (by omega) (by omega) w
  clear hF hL ok hI
  go_enter Try.func44, Try.ntmps44
  go_wp2_with fail
  refine (cloneB g 0 src.length src.length src w HRS.out hsl0 (by omega)).mono ?_
  rintro e w1 ⟨v1, rfl, hown, k1⟩
  obtain ⟨g1, cap1, hv1, hb1, _⟩ := World.ownsRow.form hown hsl0
  subst hv1
  have HB1 := Lib.hid k1
  have HO1 := Lib.hid hown
  clear hown k1 f2 f3
  go_wp2_with fail
  go_loopw [18, 5] (fun i va wr => ∃ (k ga ca : Nat) (cur : List Bool) (f : Nat → Bool), k ≤ ln ∧ i = .int .i64 k ∧ va = .slice (some ⟨ga, 0, none⟩) src.length ca ∧ src.length ≤ ca ∧ Below w.heap.size w wr ∧ w.heap.size ≤ ga ∧ LsF src.length cur f ∧ (∀ j, j < src.length → wr.cell? ⟨ga, j, none⟩ = some (.bool (cur.getD j false))) ∧ ga < wr.heap.size ∧ wgo es (l.drop k) f place = wgo es l (fun v => src.getD v false) place) (fun i _ _ => ln - (intOf i).toNat)
  case atStart =>
    have hca : src.length ≤ cap1 := by
      rcases HO1.out.2 with h | ⟨g', cap, cur, h1, _, _, h4, _⟩
      · cases h.1
      · have := Value.slice.inj h1; omega
    refine ⟨0, g1, cap1, src, fun v => src.getD v false, by omega, rfl, rfl, hca, HB1.out, hb1, ⟨rfl, fun _ _ => rfl⟩, fun j hj => ?_, (HO1.out.lt g1 rfl).2, rfl⟩
    rw [HO1.out.cellAt j (by omega)]
    unfold bools
    rw [List.getElem?_map, List.getD_eq_getElem?_getD, List.getElem?_eq_getElem hj]; rfl
  case round =>
    obtain ⟨k, ga, ca, cur, f, hk, rfl, rfl, hca, hb, hga, hls, hcell, hgalt, hgo⟩ := hrel
    have HB := Lib.hid hb
    have HLS := Lib.hid hls
    have HCE := Lib.hid hcell
    have HGO := Lib.hid hgo
    have HFw := Lib.hid (HF.out.up hb)
    have f0 := HFw.out.qf.cell 0
    have f1 := HFw.out.qf.cell 1
    have f3 := HFw.out.qf.cell 3
    have hpw := HFw.out.qf.lt
    have hwo := hb.size
    clear hb hls hcell hgo HO1
    by_cases hlt : k < ln
    · obtain ⟨nm, hnm⟩ : ∃ nm, l[k]? = some nm := ⟨_, List.getElem?_eq_getElem (by have := HLL.out; omega)⟩
      have hRw := (HL.out.below HB.out (Nat.le_refl _)).more HB.out.size
      obtain ⟨bz, oz, rfl, hbz⟩ := hRw.form (by omega)
      have e0 := hRw.at_ hnm
      have HDR := Lib.hid (drop_cons hnm)
      have hkI : (k : Int) < (ln : Int) := by omega
      clear hnm hRw
      go_wp2_with fail
      have HN0 : Hid (Blk (wr.alloc (.cells (madeCells #[.bool false] src.length) 4)) wr.heap.size 4 (bools (List.replicate src.length false)).toArray) := Lib.hid (by unfold bools; rw [← made_bools]; exact Blk.new _ _ _)
      have HK0 := Lib.hid ((Below.refl wr.heap.size wr).alloc (Nat.le_refl _) (.cells (madeCells #[.bool false] src.length) 4))
      obtain ⟨wo, hwo2⟩ : ∃ wo : World, wo = wr := ⟨_, rfl⟩
      rw [← hwo2] at HN0 HK0
      have HCEo : Hid (∀ j, j < src.length → wo.cell? ⟨ga, j, none⟩ = some (.bool (cur.getD j false))) := Lib.hid (by rw [hwo2]; exact HCE.out)
      have hgao : ga < wo.heap.size := by rw [hwo2]; exact hgalt
      have HBo : Hid (Below w.heap.size w wo) := Lib.hid (by rw [hwo2]; exact HB.out)
      have HFo : Hid (FdW wo p g es place (.slice A es.length c) src) := Lib.hid (by rw [hwo2]; exact HFw.out)
      have hwos : w.heap.size ≤ wo.heap.size := by rw [hwo2]; exact hwo
      rw [← hwo2]
      clear hwo2 HB HCE HFw f0 f1 f3 e0 hgalt hpw hwo hbz
      go_loopw [32] (fun i wr => ∃ (j : Nat) (nxt : List Bool), j ≤ es.length ∧ i = .int .i64 j ∧ Below wo.heap.size wo wr ∧ Blk wr wo.heap.size 4 (bools nxt).toArray ∧ LsF src.length nxt (wstK es nm f j)) (fun i _ => es.length - (intOf i).toNat)
      case atStart => exact ⟨0, _, by omega, rfl, HK0.out, HN0.out, by simp, fun v hv => by rw [wstK_zero, List.getD_eq_getElem?_getD]; simp [hv]⟩
      case round =>
        clear HN0 HK0
        obtain ⟨j, nxt, hj, rfl, hb2, hblk, hls2⟩ := hrel
        have HB2 := Lib.hid hb2
        have HN2 := Lib.hid hblk
        have HLS2 := Lib.hid hls2
        clear hb2 hblk hls2
        by_cases hjl : j < es.length
        · obtain ⟨e, he2⟩ : ∃ e, es[j]? = some e := ⟨_, List.getElem?_eq_getElem hjl⟩
          have hFx := HFo.out.up HB2.out
          obtain ⟨A2, c2, hv, hI⟩ := hFx.is
          have hv' := Value.slice.inj hv
          obtain ⟨rfl, -, rfl⟩ := hv'
          obtain ⟨eb, eo, rfl, heb⟩ := hI.eds.form (by omega)
          obtain ⟨e0, e1, e2, e3, e4⟩ := hI.eds.at_ he2
          obtain ⟨hea, heb2, hab⟩ := HOK.out e (List.mem_of_getElem? he2)
          have hjI : (j : Int) < (es.length : Int) := by omega
          have haI : (e.a : Int) < (src.length : Int) := by omega
          have hbI : (e.b : Int) < (src.length : Int) := by omega
          have HWS := fun v => Lib.hid (wstK_succ (nm := nm) (at_ := f) (v := v) he2)
          have HE2 := Lib.hid he2
          have HWS := Lib.hid HWS
          have hgnl := HN2.out.lt
          have HBx := Lib.hid ((HB2.out.alloc HB2.out.size (.cells #[.int .i64 e.a, .int .i64 e.b, .string e.name, .bool e.brk, .int .i64 e.fl] 104)))
          have HNx := Lib.hid (HN2.out.alloc (.cells #[.int .i64 e.a, .int .i64 e.b, .string e.name, .bool e.brk, .int .i64 e.fl] 104))
          clear hFx hv hI he2
          cases hse : sEq e.name nm with
          | false =>
            have HSE := Lib.hid hse
            go_wp2_with fail
            go_roundw
            case rel => exact ⟨j + 1, nxt, by omega, by go_num, HBx.out, HNx.out, HLS2.out.1, fun v hv => by rw [HLS2.out.2 v hv, (HWS.out v).out, HSE.out]; simp⟩
            case measure => simp [intOf]; omega
          | true =>
            have HSE := Lib.hid hse
            have hst := LsF.step HLS2.out HE2.out hse hea heb2 hab HLS.out
            have HX := Lib.hid (Blk.new wr 104 #[.int .i64 e.a, .int .i64 e.b, .string e.name, .bool e.brk, .int .i64 e.fl])
            have hxl : wr.heap.size < (wr.alloc (.cells #[.int .i64 e.a, .int .i64 e.b, .string e.name, .bool e.brk, .int .i64 e.fl] 104)).heap.size := by simp
            have hgl2 : wo.heap.size < (wr.alloc (.cells #[.int .i64 e.a, .int .i64 e.b, .string e.name, .bool e.brk, .int .i64 e.fl] 104)).heap.size := by simp; omega
            have hgal : ga < (wr.alloc (.cells #[.int .i64 e.a, .int .i64 e.b, .string e.name, .bool e.brk, .int .i64 e.fl] 104)).heap.size := by omega
            have hgx : wo.heap.size ≠ wr.heap.size := by omega
            go_wp2_with fail
            clear e0 e1 e2 e3 e4
            generalize wr.alloc (.cells #[.int .i64 e.a, .int .i64 e.b, .string e.name, .bool e.brk, .int .i64 e.fl] 104) = W at *
            generalize wr.heap.size = zb at *
            have x0 : W.cell? ⟨zb, 0, none⟩ = some (.int .i64 e.a) := HX.out.cell 0
            have x1 : W.cell? ⟨zb, 1, none⟩ = some (.int .i64 e.b) := HX.out.cell 1
            have cb : W.cell? ⟨wo.heap.size, e.b, none⟩ = some (.bool (nxt.getD e.b false)) := bool_at HNx.out (by rw [HLS2.out.1]; omega)
            have ca_ : W.cell? ⟨ga, e.a, none⟩ = some (.bool (cur.getD e.a false)) := (HBx.out.cell (p := ⟨ga, e.a, none⟩) hgao).trans (HCEo.out _ hea)
            have cbf := HNx.out.frozen e.b
            generalize hnb : nxt.getD e.b false = nb at cb hst
            generalize hva : cur.getD e.a false = va at ca_ hst
            generalize hna : nxt.getD e.a false = na at hst
            generalize hvb : cur.getD e.b false = vb at hst
            have HST := Lib.hid hst
            have HNA := Lib.hid hna
            have HVB := Lib.hid hvb
            clear hnb hva hna hvb hst
            cases nb with
            | true =>
              refine wp_region_last (S := fun w' => w'.cell? ⟨zb, 0, none⟩ = some (.int .i64 e.a) ∧ w'.cell? ⟨zb, 1, none⟩ = some (.int .i64 e.b) ∧ w'.cell? ⟨wo.heap.size, e.b, none⟩ = some (.bool true) ∧ w'.cell? ⟨ga, e.a, none⟩ = some (.bool va)) 16 _ (by kernel_rfl) (by kernel_rfl) rfl ⟨x0, x1, cb, ca_⟩ (fun hHeld => ?_)
              simp only [List.take_succ_cons, List.take_zero]
              refine takeH 0 (v := ?_) rfl (by kernel_rfl) (fun _ _ _ h => h) (by rfl) ?_ hHeld ?_
              rotate_left 1
              · intro w' hSw; (try dsimp only at hSw); go_simp <;> with_reducible rfl
              try simp only [Act.put, List.setIfInBounds_toArray, List.set_cons_zero, List.set_cons_succ]
              refine takeH 1 (v := ?_) rfl (by kernel_rfl) (fun _ _ _ h => h) (by rfl) ?_ hHeld ?_
              rotate_left 1
              · intro w' hSw; (try dsimp only at hSw); go_simp <;> with_reducible rfl
              try simp only [Act.put, List.setIfInBounds_toArray, List.set_cons_zero, List.set_cons_succ]
              refine takeH 2 (v := ?_) rfl (by kernel_rfl) (fun _ _ _ h => h) (by rfl) ?_ hHeld ?_
              rotate_left 1
              · intro w' hSw; (try dsimp only at hSw); go_simp <;> with_reducible rfl
              try simp only [Act.put, List.setIfInBounds_toArray, List.set_cons_zero, List.set_cons_succ]
              refine takeH 3 (v := ?_) rfl (by kernel_rfl) (fun _ _ _ h => h) (by rfl) ?_ hHeld ?_
              rotate_left 1
              · intro w' hSw; (try dsimp only at hSw); go_simp <;> with_reducible rfl
              try simp only [Act.put, List.setIfInBounds_toArray, List.set_cons_zero, List.set_cons_succ]
              refine takeH 4 (v := ?_) rfl (by kernel_rfl) (fun _ _ _ h => h) (by rfl) ?_ hHeld ?_
              rotate_left 1
              · intro w' hSw; (try dsimp only at hSw); go_simp <;> with_reducible rfl
              try simp only [Act.put, List.setIfInBounds_toArray, List.set_cons_zero, List.set_cons_succ]
              refine takeH 5 (v := ?_) rfl (by kernel_rfl) (fun _ _ _ h => h) (by rfl) ?_ hHeld ?_
              rotate_left 1
              · intro w' hSw; (try dsimp only at hSw); go_simp <;> with_reducible rfl
              try simp only [Act.put, List.setIfInBounds_toArray, List.set_cons_zero, List.set_cons_succ]
              refine takeH 6 (v := ?_) rfl (by kernel_rfl) (fun _ _ _ h => h) (by rfl) ?_ hHeld ?_
              rotate_left 1
              · intro w' hSw; (try dsimp only at hSw); go_simp <;> with_reducible rfl
              try simp only [Act.put, List.setIfInBounds_toArray, List.set_cons_zero, List.set_cons_succ]
              refine takeH 7 (v := ?_) rfl (by kernel_rfl) (fun _ _ _ h => h) (by rfl) ?_ hHeld ?_
              rotate_left 1
              · intro w' hSw; (try dsimp only at hSw); go_simp <;> with_reducible rfl
              try simp only [Act.put, List.setIfInBounds_toArray, List.set_cons_zero, List.set_cons_succ]
              refine takeH 8 (v := ?_) rfl (by kernel_rfl) (fun _ _ _ h => h) (by rfl) ?_ hHeld ?_
              rotate_left 1
              · intro w' hSw; (try dsimp only at hSw); go_simp <;> with_reducible rfl
              try simp only [Act.put, List.setIfInBounds_toArray, List.set_cons_zero, List.set_cons_succ]
              refine skipH 9 rfl (by kernel_rfl) (fun _ _ _ h => h) (by rfl) hHeld ?_
              try simp only [Act.put, List.setIfInBounds_toArray, List.set_cons_zero, List.set_cons_succ]
              refine skipH 10 rfl (by kernel_rfl) (fun _ _ _ h => h) (by rfl) hHeld ?_
              try simp only [Act.put, List.setIfInBounds_toArray, List.set_cons_zero, List.set_cons_succ]
              refine skipH 11 rfl (by kernel_rfl) (fun _ _ _ h => h) (by rfl) hHeld ?_
              try simp only [Act.put, List.setIfInBounds_toArray, List.set_cons_zero, List.set_cons_succ]
              refine skipH 12 rfl (by kernel_rfl) (fun _ _ _ h => h) (by rfl) hHeld ?_
              try simp only [Act.put, List.setIfInBounds_toArray, List.set_cons_zero, List.set_cons_succ]
              refine skipH 13 rfl (by kernel_rfl) (fun _ _ _ h => h) (by rfl) hHeld ?_
              try simp only [Act.put, List.setIfInBounds_toArray, List.set_cons_zero, List.set_cons_succ]
              refine takeH 14 (v := ?_) rfl (by kernel_rfl) (fun _ _ _ h => h) (by rfl) ?_ hHeld ?_
              rotate_left 1
              · intro w' hSw; (try dsimp only at hSw); go_simp <;> with_reducible rfl
              try simp only [Act.put, List.setIfInBounds_toArray, List.set_cons_zero, List.set_cons_succ]
              refine takeH 15 (v := ?_) rfl (by kernel_rfl) (fun _ _ _ h => h) (by rfl) ?_ hHeld ?_
              rotate_left 1
              · intro w' hSw; (try dsimp only at hSw); go_simp <;> with_reducible rfl
              try simp only [Act.put, List.setIfInBounds_toArray, List.set_cons_zero, List.set_cons_succ]
              refine wpAnyH_done (by kernel_rfl) ?_ _
              refine lastQ_go (by rfl) ?_
              have HB1 := Lib.hid (((below_drewN HBx.out 1).setCell (p := ⟨wo.heap.size, e.b, none⟩) (Nat.le_refl _) (.bool true)))
              have HN1 := Lib.hid (blk_bset (HNx.out.drew) e.b true)
              have HX1 := Lib.hid (HX.out.drew.far (p := ⟨wo.heap.size, e.b, none⟩) (Ne.symm hgx) (.bool true))
              have cb2 : W.drew.cell? ⟨wo.heap.size, e.b, none⟩ = some (.bool true) := cb
              have cf2 : W.drew.frozen? ⟨wo.heap.size, e.b, none⟩ = false := cbf
              go_simp
              go_wp2_with fail
              change Hid (Below wo.heap.size wo (W.setCell ⟨wo.heap.size, e.b, none⟩ (.bool true)).drew) at HB1
              change Hid (Blk (W.setCell ⟨wo.heap.size, e.b, none⟩ (.bool true)).drew _ _ _) at HN1
              change Hid (Blk (W.setCell ⟨wo.heap.size, e.b, none⟩ (.bool true)).drew _ _ _) at HX1
              clear x0 x1 cb ca_ cbf cb2 cf2 hHeld
              generalize (W.setCell ⟨wo.heap.size, e.b, none⟩ (.bool true)).drew = W1 at *
              have x0 : W1.cell? ⟨zb, 0, none⟩ = some (.int .i64 e.a) := HX1.out.cell 0
              have x1 : W1.cell? ⟨zb, 1, none⟩ = some (.int .i64 e.b) := HX1.out.cell 1
              have ca1 : W1.cell? ⟨wo.heap.size, e.a, none⟩ = some (.bool na) := by
                have h := bool_at HN1.out (i := e.a) (by simp; rw [HLS2.out.1]; omega)
                rw [h, List.getD_eq_getElem?_getD, List.getElem?_set_ne (Ne.symm hab), ← List.getD_eq_getElem?_getD, HNA.out]
              have cb1 : W1.cell? ⟨ga, e.b, none⟩ = some (.bool vb) := by rw [(HB1.out.cell (p := ⟨ga, e.b, none⟩) hgao)]; have h := HCEo.out _ heb2; rw [HVB.out] at h; exact h
              have caf1 := HN1.out.frozen e.a
              cases na with
              | true =>
                refine wp_region_last (S := fun w' => w'.cell? ⟨zb, 0, none⟩ = some (.int .i64 e.a) ∧ w'.cell? ⟨zb, 1, none⟩ = some (.int .i64 e.b) ∧ w'.cell? ⟨wo.heap.size, e.a, none⟩ = some (.bool true) ∧ w'.cell? ⟨ga, e.b, none⟩ = some (.bool vb)) 16 _ (by kernel_rfl) (by kernel_rfl) rfl ⟨x0, x1, ca1, cb1⟩ (fun hHeld => ?_)
                simp only [List.take_succ_cons, List.take_zero]
                refine takeH 0 (v := ?_) rfl (by kernel_rfl) (fun _ _ _ h => h) (by rfl) ?_ hHeld ?_
                rotate_left 1
                · intro w' hSw; (try dsimp only at hSw); go_simp <;> with_reducible rfl
                try simp only [Act.put, List.setIfInBounds_toArray, List.set_cons_zero, List.set_cons_succ]
                refine takeH 1 (v := ?_) rfl (by kernel_rfl) (fun _ _ _ h => h) (by rfl) ?_ hHeld ?_
                rotate_left 1
                · intro w' hSw; (try dsimp only at hSw); go_simp <;> with_reducible rfl
                try simp only [Act.put, List.setIfInBounds_toArray, List.set_cons_zero, List.set_cons_succ]
                refine takeH 2 (v := ?_) rfl (by kernel_rfl) (fun _ _ _ h => h) (by rfl) ?_ hHeld ?_
                rotate_left 1
                · intro w' hSw; (try dsimp only at hSw); go_simp <;> with_reducible rfl
                try simp only [Act.put, List.setIfInBounds_toArray, List.set_cons_zero, List.set_cons_succ]
                refine takeH 3 (v := ?_) rfl (by kernel_rfl) (fun _ _ _ h => h) (by rfl) ?_ hHeld ?_
                rotate_left 1
                · intro w' hSw; (try dsimp only at hSw); go_simp <;> with_reducible rfl
                try simp only [Act.put, List.setIfInBounds_toArray, List.set_cons_zero, List.set_cons_succ]
                refine takeH 4 (v := ?_) rfl (by kernel_rfl) (fun _ _ _ h => h) (by rfl) ?_ hHeld ?_
                rotate_left 1
                · intro w' hSw; (try dsimp only at hSw); go_simp <;> with_reducible rfl
                try simp only [Act.put, List.setIfInBounds_toArray, List.set_cons_zero, List.set_cons_succ]
                refine takeH 5 (v := ?_) rfl (by kernel_rfl) (fun _ _ _ h => h) (by rfl) ?_ hHeld ?_
                rotate_left 1
                · intro w' hSw; (try dsimp only at hSw); go_simp <;> with_reducible rfl
                try simp only [Act.put, List.setIfInBounds_toArray, List.set_cons_zero, List.set_cons_succ]
                refine takeH 6 (v := ?_) rfl (by kernel_rfl) (fun _ _ _ h => h) (by rfl) ?_ hHeld ?_
                rotate_left 1
                · intro w' hSw; (try dsimp only at hSw); go_simp <;> with_reducible rfl
                try simp only [Act.put, List.setIfInBounds_toArray, List.set_cons_zero, List.set_cons_succ]
                refine takeH 7 (v := ?_) rfl (by kernel_rfl) (fun _ _ _ h => h) (by rfl) ?_ hHeld ?_
                rotate_left 1
                · intro w' hSw; (try dsimp only at hSw); go_simp <;> with_reducible rfl
                try simp only [Act.put, List.setIfInBounds_toArray, List.set_cons_zero, List.set_cons_succ]
                refine takeH 8 (v := ?_) rfl (by kernel_rfl) (fun _ _ _ h => h) (by rfl) ?_ hHeld ?_
                rotate_left 1
                · intro w' hSw; (try dsimp only at hSw); go_simp <;> with_reducible rfl
                try simp only [Act.put, List.setIfInBounds_toArray, List.set_cons_zero, List.set_cons_succ]
                refine skipH 9 rfl (by kernel_rfl) (fun _ _ _ h => h) (by rfl) hHeld ?_
                try simp only [Act.put, List.setIfInBounds_toArray, List.set_cons_zero, List.set_cons_succ]
                refine skipH 10 rfl (by kernel_rfl) (fun _ _ _ h => h) (by rfl) hHeld ?_
                try simp only [Act.put, List.setIfInBounds_toArray, List.set_cons_zero, List.set_cons_succ]
                refine skipH 11 rfl (by kernel_rfl) (fun _ _ _ h => h) (by rfl) hHeld ?_
                try simp only [Act.put, List.setIfInBounds_toArray, List.set_cons_zero, List.set_cons_succ]
                refine skipH 12 rfl (by kernel_rfl) (fun _ _ _ h => h) (by rfl) hHeld ?_
                try simp only [Act.put, List.setIfInBounds_toArray, List.set_cons_zero, List.set_cons_succ]
                refine skipH 13 rfl (by kernel_rfl) (fun _ _ _ h => h) (by rfl) hHeld ?_
                try simp only [Act.put, List.setIfInBounds_toArray, List.set_cons_zero, List.set_cons_succ]
                refine takeH 14 (v := ?_) rfl (by kernel_rfl) (fun _ _ _ h => h) (by rfl) ?_ hHeld ?_
                rotate_left 1
                · intro w' hSw; (try dsimp only at hSw); go_simp <;> with_reducible rfl
                try simp only [Act.put, List.setIfInBounds_toArray, List.set_cons_zero, List.set_cons_succ]
                refine takeH 15 (v := ?_) rfl (by kernel_rfl) (fun _ _ _ h => h) (by rfl) ?_ hHeld ?_
                rotate_left 1
                · intro w' hSw; (try dsimp only at hSw); go_simp <;> with_reducible rfl
                try simp only [Act.put, List.setIfInBounds_toArray, List.set_cons_zero, List.set_cons_succ]
                refine wpAnyH_done (by kernel_rfl) ?_ _
                refine lastQ_go (by rfl) ?_
                have HB3 := Lib.hid (((below_drewN HB1.out 1).setCell (p := ⟨wo.heap.size, e.a, none⟩) (Nat.le_refl _) (.bool true)))
                have HN3 := Lib.hid (blk_bset (HN1.out.drew) e.a true)
                have ca2 : W1.drew.cell? ⟨wo.heap.size, e.a, none⟩ = some (.bool true) := ca1
                have cf2 : W1.drew.frozen? ⟨wo.heap.size, e.a, none⟩ = false := HN1.out.frozen e.a
                go_simp
                go_wp2_with fail
                go_roundw
                case rel => exact ⟨j + 1, _, by omega, by go_num, HB3.out, HN3.out, by have h := HST.out; simpa using h⟩
                case measure => simp [intOf]; omega
              | false =>
                refine wp_region_last (S := fun w' => w'.cell? ⟨zb, 0, none⟩ = some (.int .i64 e.a) ∧ w'.cell? ⟨zb, 1, none⟩ = some (.int .i64 e.b) ∧ w'.cell? ⟨wo.heap.size, e.a, none⟩ = some (.bool false) ∧ w'.cell? ⟨ga, e.b, none⟩ = some (.bool vb)) 16 _ (by kernel_rfl) (by kernel_rfl) rfl ⟨x0, x1, ca1, cb1⟩ (fun hHeld => ?_)
                simp only [List.take_succ_cons, List.take_zero]
                refine takeH 0 (v := ?_) rfl (by kernel_rfl) (fun _ _ _ h => h) (by rfl) ?_ hHeld ?_
                rotate_left 1
                · intro w' hSw; (try dsimp only at hSw); go_simp <;> with_reducible rfl
                try simp only [Act.put, List.setIfInBounds_toArray, List.set_cons_zero, List.set_cons_succ]
                refine takeH 1 (v := ?_) rfl (by kernel_rfl) (fun _ _ _ h => h) (by rfl) ?_ hHeld ?_
                rotate_left 1
                · intro w' hSw; (try dsimp only at hSw); go_simp <;> with_reducible rfl
                try simp only [Act.put, List.setIfInBounds_toArray, List.set_cons_zero, List.set_cons_succ]
                refine takeH 2 (v := ?_) rfl (by kernel_rfl) (fun _ _ _ h => h) (by rfl) ?_ hHeld ?_
                rotate_left 1
                · intro w' hSw; (try dsimp only at hSw); go_simp <;> with_reducible rfl
                try simp only [Act.put, List.setIfInBounds_toArray, List.set_cons_zero, List.set_cons_succ]
                refine takeH 3 (v := ?_) rfl (by kernel_rfl) (fun _ _ _ h => h) (by rfl) ?_ hHeld ?_
                rotate_left 1
                · intro w' hSw; (try dsimp only at hSw); go_simp <;> with_reducible rfl
                try simp only [Act.put, List.setIfInBounds_toArray, List.set_cons_zero, List.set_cons_succ]
                refine takeH 4 (v := ?_) rfl (by kernel_rfl) (fun _ _ _ h => h) (by rfl) ?_ hHeld ?_
                rotate_left 1
                · intro w' hSw; (try dsimp only at hSw); go_simp <;> with_reducible rfl
                try simp only [Act.put, List.setIfInBounds_toArray, List.set_cons_zero, List.set_cons_succ]
                refine takeH 5 (v := ?_) rfl (by kernel_rfl) (fun _ _ _ h => h) (by rfl) ?_ hHeld ?_
                rotate_left 1
                · intro w' hSw; (try dsimp only at hSw); go_simp <;> with_reducible rfl
                try simp only [Act.put, List.setIfInBounds_toArray, List.set_cons_zero, List.set_cons_succ]
                refine takeH 6 (v := ?_) rfl (by kernel_rfl) (fun _ _ _ h => h) (by rfl) ?_ hHeld ?_
                rotate_left 1
                · intro w' hSw; (try dsimp only at hSw); go_simp <;> with_reducible rfl
                try simp only [Act.put, List.setIfInBounds_toArray, List.set_cons_zero, List.set_cons_succ]
                refine takeH 7 (v := ?_) rfl (by kernel_rfl) (fun _ _ _ h => h) (by rfl) ?_ hHeld ?_
                rotate_left 1
                · intro w' hSw; (try dsimp only at hSw); go_simp <;> with_reducible rfl
                try simp only [Act.put, List.setIfInBounds_toArray, List.set_cons_zero, List.set_cons_succ]
                refine takeH 8 (v := ?_) rfl (by kernel_rfl) (fun _ _ _ h => h) (by rfl) ?_ hHeld ?_
                rotate_left 1
                · intro w' hSw; (try dsimp only at hSw); go_simp <;> with_reducible rfl
                try simp only [Act.put, List.setIfInBounds_toArray, List.set_cons_zero, List.set_cons_succ]
                refine takeH 9 (v := ?_) rfl (by kernel_rfl) (fun _ _ _ h => h) (by rfl) ?_ hHeld ?_
                rotate_left 1
                · intro w' hSw; (try dsimp only at hSw); go_simp <;> with_reducible rfl
                try simp only [Act.put, List.setIfInBounds_toArray, List.set_cons_zero, List.set_cons_succ]
                refine takeH 10 (v := ?_) rfl (by kernel_rfl) (fun _ _ _ h => h) (by rfl) ?_ hHeld ?_
                rotate_left 1
                · intro w' hSw; (try dsimp only at hSw); go_simp <;> with_reducible rfl
                try simp only [Act.put, List.setIfInBounds_toArray, List.set_cons_zero, List.set_cons_succ]
                refine takeH 11 (v := ?_) rfl (by kernel_rfl) (fun _ _ _ h => h) (by rfl) ?_ hHeld ?_
                rotate_left 1
                · intro w' hSw; (try dsimp only at hSw); go_simp <;> with_reducible rfl
                try simp only [Act.put, List.setIfInBounds_toArray, List.set_cons_zero, List.set_cons_succ]
                refine takeH 12 (v := ?_) rfl (by kernel_rfl) (fun _ _ _ h => h) (by rfl) ?_ hHeld ?_
                rotate_left 1
                · intro w' hSw; (try dsimp only at hSw); go_simp <;> with_reducible rfl
                try simp only [Act.put, List.setIfInBounds_toArray, List.set_cons_zero, List.set_cons_succ]
                refine takeH 13 (v := ?_) rfl (by kernel_rfl) (fun _ _ _ h => h) (by rfl) ?_ hHeld ?_
                rotate_left 1
                · intro w' hSw; (try dsimp only at hSw); go_simp <;> with_reducible rfl
                try simp only [Act.put, List.setIfInBounds_toArray, List.set_cons_zero, List.set_cons_succ]
                refine takeH 14 (v := ?_) rfl (by kernel_rfl) (fun _ _ _ h => h) (by rfl) ?_ hHeld ?_
                rotate_left 1
                · intro w' hSw; (try dsimp only at hSw); go_simp <;> with_reducible rfl
                try simp only [Act.put, List.setIfInBounds_toArray, List.set_cons_zero, List.set_cons_succ]
                refine takeH 15 (v := ?_) rfl (by kernel_rfl) (fun _ _ _ h => h) (by rfl) ?_ hHeld ?_
                rotate_left 1
                · intro w' hSw; (try dsimp only at hSw); go_simp <;> with_reducible rfl
                try simp only [Act.put, List.setIfInBounds_toArray, List.set_cons_zero, List.set_cons_succ]
                refine wpAnyH_done (by kernel_rfl) ?_ _
                refine lastQ_go (by rfl) ?_
                have HB3 := Lib.hid (((below_drewN HB1.out 1).setCell (p := ⟨wo.heap.size, e.a, none⟩) (Nat.le_refl _) (.bool vb)))
                have HN3 := Lib.hid (blk_bset (HN1.out.drew) e.a vb)
                have ca2 : W1.drew.cell? ⟨wo.heap.size, e.a, none⟩ = some (.bool false) := ca1
                have cf2 : W1.drew.frozen? ⟨wo.heap.size, e.a, none⟩ = false := HN1.out.frozen e.a
                go_simp
                go_wp2_with fail
                go_roundw
                case rel => exact ⟨j + 1, _, by omega, by go_num, HB3.out, HN3.out, by have h := HST.out; simpa using h⟩
                case measure => simp [intOf]; omega
            | false =>
              refine wp_region_last (S := fun w' => w'.cell? ⟨zb, 0, none⟩ = some (.int .i64 e.a) ∧ w'.cell? ⟨zb, 1, none⟩ = some (.int .i64 e.b) ∧ w'.cell? ⟨wo.heap.size, e.b, none⟩ = some (.bool false) ∧ w'.cell? ⟨ga, e.a, none⟩ = some (.bool va)) 16 _ (by kernel_rfl) (by kernel_rfl) rfl ⟨x0, x1, cb, ca_⟩ (fun hHeld => ?_)
              simp only [List.take_succ_cons, List.take_zero]
              refine takeH 0 (v := ?_) rfl (by kernel_rfl) (fun _ _ _ h => h) (by rfl) ?_ hHeld ?_
              rotate_left 1
              · intro w' hSw; (try dsimp only at hSw); go_simp <;> with_reducible rfl
              try simp only [Act.put, List.setIfInBounds_toArray, List.set_cons_zero, List.set_cons_succ]
              refine takeH 1 (v := ?_) rfl (by kernel_rfl) (fun _ _ _ h => h) (by rfl) ?_ hHeld ?_
              rotate_left 1
              · intro w' hSw; (try dsimp only at hSw); go_simp <;> with_reducible rfl
              try simp only [Act.put, List.setIfInBounds_toArray, List.set_cons_zero, List.set_cons_succ]
              refine takeH 2 (v := ?_) rfl (by kernel_rfl) (fun _ _ _ h => h) (by rfl) ?_ hHeld ?_
              rotate_left 1
              · intro w' hSw; (try dsimp only at hSw); go_simp <;> with_reducible rfl
              try simp only [Act.put, List.setIfInBounds_toArray, List.set_cons_zero, List.set_cons_succ]
              refine takeH 3 (v := ?_) rfl (by kernel_rfl) (fun _ _ _ h => h) (by rfl) ?_ hHeld ?_
              rotate_left 1
              · intro w' hSw; (try dsimp only at hSw); go_simp <;> with_reducible rfl
              try simp only [Act.put, List.setIfInBounds_toArray, List.set_cons_zero, List.set_cons_succ]
              refine takeH 4 (v := ?_) rfl (by kernel_rfl) (fun _ _ _ h => h) (by rfl) ?_ hHeld ?_
              rotate_left 1
              · intro w' hSw; (try dsimp only at hSw); go_simp <;> with_reducible rfl
              try simp only [Act.put, List.setIfInBounds_toArray, List.set_cons_zero, List.set_cons_succ]
              refine takeH 5 (v := ?_) rfl (by kernel_rfl) (fun _ _ _ h => h) (by rfl) ?_ hHeld ?_
              rotate_left 1
              · intro w' hSw; (try dsimp only at hSw); go_simp <;> with_reducible rfl
              try simp only [Act.put, List.setIfInBounds_toArray, List.set_cons_zero, List.set_cons_succ]
              refine takeH 6 (v := ?_) rfl (by kernel_rfl) (fun _ _ _ h => h) (by rfl) ?_ hHeld ?_
              rotate_left 1
              · intro w' hSw; (try dsimp only at hSw); go_simp <;> with_reducible rfl
              try simp only [Act.put, List.setIfInBounds_toArray, List.set_cons_zero, List.set_cons_succ]
              refine takeH 7 (v := ?_) rfl (by kernel_rfl) (fun _ _ _ h => h) (by rfl) ?_ hHeld ?_
              rotate_left 1
              · intro w' hSw; (try dsimp only at hSw); go_simp <;> with_reducible rfl
              try simp only [Act.put, List.setIfInBounds_toArray, List.set_cons_zero, List.set_cons_succ]
              refine takeH 8 (v := ?_) rfl (by kernel_rfl) (fun _ _ _ h => h) (by rfl) ?_ hHeld ?_
              rotate_left 1
              · intro w' hSw; (try dsimp only at hSw); go_simp <;> with_reducible rfl
              try simp only [Act.put, List.setIfInBounds_toArray, List.set_cons_zero, List.set_cons_succ]
              refine takeH 9 (v := ?_) rfl (by kernel_rfl) (fun _ _ _ h => h) (by rfl) ?_ hHeld ?_
              rotate_left 1
              · intro w' hSw; (try dsimp only at hSw); go_simp <;> with_reducible rfl
              try simp only [Act.put, List.setIfInBounds_toArray, List.set_cons_zero, List.set_cons_succ]
              refine takeH 10 (v := ?_) rfl (by kernel_rfl) (fun _ _ _ h => h) (by rfl) ?_ hHeld ?_
              rotate_left 1
              · intro w' hSw; (try dsimp only at hSw); go_simp <;> with_reducible rfl
              try simp only [Act.put, List.setIfInBounds_toArray, List.set_cons_zero, List.set_cons_succ]
              refine takeH 11 (v := ?_) rfl (by kernel_rfl) (fun _ _ _ h => h) (by rfl) ?_ hHeld ?_
              rotate_left 1
              · intro w' hSw; (try dsimp only at hSw); go_simp <;> with_reducible rfl
              try simp only [Act.put, List.setIfInBounds_toArray, List.set_cons_zero, List.set_cons_succ]
              refine takeH 12 (v := ?_) rfl (by kernel_rfl) (fun _ _ _ h => h) (by rfl) ?_ hHeld ?_
              rotate_left 1
              · intro w' hSw; (try dsimp only at hSw); go_simp <;> with_reducible rfl
              try simp only [Act.put, List.setIfInBounds_toArray, List.set_cons_zero, List.set_cons_succ]
              refine takeH 13 (v := ?_) rfl (by kernel_rfl) (fun _ _ _ h => h) (by rfl) ?_ hHeld ?_
              rotate_left 1
              · intro w' hSw; (try dsimp only at hSw); go_simp <;> with_reducible rfl
              try simp only [Act.put, List.setIfInBounds_toArray, List.set_cons_zero, List.set_cons_succ]
              refine takeH 14 (v := ?_) rfl (by kernel_rfl) (fun _ _ _ h => h) (by rfl) ?_ hHeld ?_
              rotate_left 1
              · intro w' hSw; (try dsimp only at hSw); go_simp <;> with_reducible rfl
              try simp only [Act.put, List.setIfInBounds_toArray, List.set_cons_zero, List.set_cons_succ]
              refine takeH 15 (v := ?_) rfl (by kernel_rfl) (fun _ _ _ h => h) (by rfl) ?_ hHeld ?_
              rotate_left 1
              · intro w' hSw; (try dsimp only at hSw); go_simp <;> with_reducible rfl
              try simp only [Act.put, List.setIfInBounds_toArray, List.set_cons_zero, List.set_cons_succ]
              refine wpAnyH_done (by kernel_rfl) ?_ _
              refine lastQ_go (by rfl) ?_
              have HB1 := Lib.hid (((below_drewN HBx.out 1).setCell (p := ⟨wo.heap.size, e.b, none⟩) (Nat.le_refl _) (.bool va)))
              have HN1 := Lib.hid (blk_bset (HNx.out.drew) e.b va)
              have HX1 := Lib.hid (HX.out.drew.far (p := ⟨wo.heap.size, e.b, none⟩) (Ne.symm hgx) (.bool va))
              have cb2 : W.drew.cell? ⟨wo.heap.size, e.b, none⟩ = some (.bool false) := cb
              have cf2 : W.drew.frozen? ⟨wo.heap.size, e.b, none⟩ = false := cbf
              go_simp
              go_wp2_with fail
              change Hid (Below wo.heap.size wo (W.setCell ⟨wo.heap.size, e.b, none⟩ (.bool va)).drew) at HB1
              change Hid (Blk (W.setCell ⟨wo.heap.size, e.b, none⟩ (.bool va)).drew _ _ _) at HN1
              change Hid (Blk (W.setCell ⟨wo.heap.size, e.b, none⟩ (.bool va)).drew _ _ _) at HX1
              clear x0 x1 cb ca_ cbf cb2 cf2 hHeld
              generalize (W.setCell ⟨wo.heap.size, e.b, none⟩ (.bool va)).drew = W1 at *
              have x0 : W1.cell? ⟨zb, 0, none⟩ = some (.int .i64 e.a) := HX1.out.cell 0
              have x1 : W1.cell? ⟨zb, 1, none⟩ = some (.int .i64 e.b) := HX1.out.cell 1
              have ca1 : W1.cell? ⟨wo.heap.size, e.a, none⟩ = some (.bool na) := by
                have h := bool_at HN1.out (i := e.a) (by simp; rw [HLS2.out.1]; omega)
                rw [h, List.getD_eq_getElem?_getD, List.getElem?_set_ne (Ne.symm hab), ← List.getD_eq_getElem?_getD, HNA.out]
              have cb1 : W1.cell? ⟨ga, e.b, none⟩ = some (.bool vb) := by rw [(HB1.out.cell (p := ⟨ga, e.b, none⟩) hgao)]; have h := HCEo.out _ heb2; rw [HVB.out] at h; exact h
              have caf1 := HN1.out.frozen e.a
              cases na with
              | true =>
                refine wp_region_last (S := fun w' => w'.cell? ⟨zb, 0, none⟩ = some (.int .i64 e.a) ∧ w'.cell? ⟨zb, 1, none⟩ = some (.int .i64 e.b) ∧ w'.cell? ⟨wo.heap.size, e.a, none⟩ = some (.bool true) ∧ w'.cell? ⟨ga, e.b, none⟩ = some (.bool vb)) 16 _ (by kernel_rfl) (by kernel_rfl) rfl ⟨x0, x1, ca1, cb1⟩ (fun hHeld => ?_)
                simp only [List.take_succ_cons, List.take_zero]
                refine takeH 0 (v := ?_) rfl (by kernel_rfl) (fun _ _ _ h => h) (by rfl) ?_ hHeld ?_
                rotate_left 1
                · intro w' hSw; (try dsimp only at hSw); go_simp <;> with_reducible rfl
                try simp only [Act.put, List.setIfInBounds_toArray, List.set_cons_zero, List.set_cons_succ]
                refine takeH 1 (v := ?_) rfl (by kernel_rfl) (fun _ _ _ h => h) (by rfl) ?_ hHeld ?_
                rotate_left 1
                · intro w' hSw; (try dsimp only at hSw); go_simp <;> with_reducible rfl
                try simp only [Act.put, List.setIfInBounds_toArray, List.set_cons_zero, List.set_cons_succ]
                refine takeH 2 (v := ?_) rfl (by kernel_rfl) (fun _ _ _ h => h) (by rfl) ?_ hHeld ?_
                rotate_left 1
                · intro w' hSw; (try dsimp only at hSw); go_simp <;> with_reducible rfl
                try simp only [Act.put, List.setIfInBounds_toArray, List.set_cons_zero, List.set_cons_succ]
                refine takeH 3 (v := ?_) rfl (by kernel_rfl) (fun _ _ _ h => h) (by rfl) ?_ hHeld ?_
                rotate_left 1
                · intro w' hSw; (try dsimp only at hSw); go_simp <;> with_reducible rfl
                try simp only [Act.put, List.setIfInBounds_toArray, List.set_cons_zero, List.set_cons_succ]
                refine takeH 4 (v := ?_) rfl (by kernel_rfl) (fun _ _ _ h => h) (by rfl) ?_ hHeld ?_
                rotate_left 1
                · intro w' hSw; (try dsimp only at hSw); go_simp <;> with_reducible rfl
                try simp only [Act.put, List.setIfInBounds_toArray, List.set_cons_zero, List.set_cons_succ]
                refine takeH 5 (v := ?_) rfl (by kernel_rfl) (fun _ _ _ h => h) (by rfl) ?_ hHeld ?_
                rotate_left 1
                · intro w' hSw; (try dsimp only at hSw); go_simp <;> with_reducible rfl
                try simp only [Act.put, List.setIfInBounds_toArray, List.set_cons_zero, List.set_cons_succ]
                refine takeH 6 (v := ?_) rfl (by kernel_rfl) (fun _ _ _ h => h) (by rfl) ?_ hHeld ?_
                rotate_left 1
                · intro w' hSw; (try dsimp only at hSw); go_simp <;> with_reducible rfl
                try simp only [Act.put, List.setIfInBounds_toArray, List.set_cons_zero, List.set_cons_succ]
                refine takeH 7 (v := ?_) rfl (by kernel_rfl) (fun _ _ _ h => h) (by rfl) ?_ hHeld ?_
                rotate_left 1
                · intro w' hSw; (try dsimp only at hSw); go_simp <;> with_reducible rfl
                try simp only [Act.put, List.setIfInBounds_toArray, List.set_cons_zero, List.set_cons_succ]
                refine takeH 8 (v := ?_) rfl (by kernel_rfl) (fun _ _ _ h => h) (by rfl) ?_ hHeld ?_
                rotate_left 1
                · intro w' hSw; (try dsimp only at hSw); go_simp <;> with_reducible rfl
                try simp only [Act.put, List.setIfInBounds_toArray, List.set_cons_zero, List.set_cons_succ]
                refine skipH 9 rfl (by kernel_rfl) (fun _ _ _ h => h) (by rfl) hHeld ?_
                try simp only [Act.put, List.setIfInBounds_toArray, List.set_cons_zero, List.set_cons_succ]
                refine skipH 10 rfl (by kernel_rfl) (fun _ _ _ h => h) (by rfl) hHeld ?_
                try simp only [Act.put, List.setIfInBounds_toArray, List.set_cons_zero, List.set_cons_succ]
                refine skipH 11 rfl (by kernel_rfl) (fun _ _ _ h => h) (by rfl) hHeld ?_
                try simp only [Act.put, List.setIfInBounds_toArray, List.set_cons_zero, List.set_cons_succ]
                refine skipH 12 rfl (by kernel_rfl) (fun _ _ _ h => h) (by rfl) hHeld ?_
                try simp only [Act.put, List.setIfInBounds_toArray, List.set_cons_zero, List.set_cons_succ]
                refine skipH 13 rfl (by kernel_rfl) (fun _ _ _ h => h) (by rfl) hHeld ?_
                try simp only [Act.put, List.setIfInBounds_toArray, List.set_cons_zero, List.set_cons_succ]
                refine takeH 14 (v := ?_) rfl (by kernel_rfl) (fun _ _ _ h => h) (by rfl) ?_ hHeld ?_
                rotate_left 1
                · intro w' hSw; (try dsimp only at hSw); go_simp <;> with_reducible rfl
                try simp only [Act.put, List.setIfInBounds_toArray, List.set_cons_zero, List.set_cons_succ]
                refine takeH 15 (v := ?_) rfl (by kernel_rfl) (fun _ _ _ h => h) (by rfl) ?_ hHeld ?_
                rotate_left 1
                · intro w' hSw; (try dsimp only at hSw); go_simp <;> with_reducible rfl
                try simp only [Act.put, List.setIfInBounds_toArray, List.set_cons_zero, List.set_cons_succ]
                refine wpAnyH_done (by kernel_rfl) ?_ _
                refine lastQ_go (by rfl) ?_
                have HB3 := Lib.hid (((below_drewN HB1.out 1).setCell (p := ⟨wo.heap.size, e.a, none⟩) (Nat.le_refl _) (.bool true)))
                have HN3 := Lib.hid (blk_bset (HN1.out.drew) e.a true)
                have ca2 : W1.drew.cell? ⟨wo.heap.size, e.a, none⟩ = some (.bool true) := ca1
                have cf2 : W1.drew.frozen? ⟨wo.heap.size, e.a, none⟩ = false := HN1.out.frozen e.a
                go_simp
                go_wp2_with fail
                go_roundw
                case rel => exact ⟨j + 1, _, by omega, by go_num, HB3.out, HN3.out, by have h := HST.out; simpa using h⟩
                case measure => simp [intOf]; omega
              | false =>
                refine wp_region_last (S := fun w' => w'.cell? ⟨zb, 0, none⟩ = some (.int .i64 e.a) ∧ w'.cell? ⟨zb, 1, none⟩ = some (.int .i64 e.b) ∧ w'.cell? ⟨wo.heap.size, e.a, none⟩ = some (.bool false) ∧ w'.cell? ⟨ga, e.b, none⟩ = some (.bool vb)) 16 _ (by kernel_rfl) (by kernel_rfl) rfl ⟨x0, x1, ca1, cb1⟩ (fun hHeld => ?_)
                simp only [List.take_succ_cons, List.take_zero]
                refine takeH 0 (v := ?_) rfl (by kernel_rfl) (fun _ _ _ h => h) (by rfl) ?_ hHeld ?_
                rotate_left 1
                · intro w' hSw; (try dsimp only at hSw); go_simp <;> with_reducible rfl
                try simp only [Act.put, List.setIfInBounds_toArray, List.set_cons_zero, List.set_cons_succ]
                refine takeH 1 (v := ?_) rfl (by kernel_rfl) (fun _ _ _ h => h) (by rfl) ?_ hHeld ?_
                rotate_left 1
                · intro w' hSw; (try dsimp only at hSw); go_simp <;> with_reducible rfl
                try simp only [Act.put, List.setIfInBounds_toArray, List.set_cons_zero, List.set_cons_succ]
                refine takeH 2 (v := ?_) rfl (by kernel_rfl) (fun _ _ _ h => h) (by rfl) ?_ hHeld ?_
                rotate_left 1
                · intro w' hSw; (try dsimp only at hSw); go_simp <;> with_reducible rfl
                try simp only [Act.put, List.setIfInBounds_toArray, List.set_cons_zero, List.set_cons_succ]
                refine takeH 3 (v := ?_) rfl (by kernel_rfl) (fun _ _ _ h => h) (by rfl) ?_ hHeld ?_
                rotate_left 1
                · intro w' hSw; (try dsimp only at hSw); go_simp <;> with_reducible rfl
                try simp only [Act.put, List.setIfInBounds_toArray, List.set_cons_zero, List.set_cons_succ]
                refine takeH 4 (v := ?_) rfl (by kernel_rfl) (fun _ _ _ h => h) (by rfl) ?_ hHeld ?_
                rotate_left 1
                · intro w' hSw; (try dsimp only at hSw); go_simp <;> with_reducible rfl
                try simp only [Act.put, List.setIfInBounds_toArray, List.set_cons_zero, List.set_cons_succ]
                refine takeH 5 (v := ?_) rfl (by kernel_rfl) (fun _ _ _ h => h) (by rfl) ?_ hHeld ?_
                rotate_left 1
                · intro w' hSw; (try dsimp only at hSw); go_simp <;> with_reducible rfl
                try simp only [Act.put, List.setIfInBounds_toArray, List.set_cons_zero, List.set_cons_succ]
                refine takeH 6 (v := ?_) rfl (by kernel_rfl) (fun _ _ _ h => h) (by rfl) ?_ hHeld ?_
                rotate_left 1
                · intro w' hSw; (try dsimp only at hSw); go_simp <;> with_reducible rfl
                try simp only [Act.put, List.setIfInBounds_toArray, List.set_cons_zero, List.set_cons_succ]
                refine takeH 7 (v := ?_) rfl (by kernel_rfl) (fun _ _ _ h => h) (by rfl) ?_ hHeld ?_
                rotate_left 1
                · intro w' hSw; (try dsimp only at hSw); go_simp <;> with_reducible rfl
                try simp only [Act.put, List.setIfInBounds_toArray, List.set_cons_zero, List.set_cons_succ]
                refine takeH 8 (v := ?_) rfl (by kernel_rfl) (fun _ _ _ h => h) (by rfl) ?_ hHeld ?_
                rotate_left 1
                · intro w' hSw; (try dsimp only at hSw); go_simp <;> with_reducible rfl
                try simp only [Act.put, List.setIfInBounds_toArray, List.set_cons_zero, List.set_cons_succ]
                refine takeH 9 (v := ?_) rfl (by kernel_rfl) (fun _ _ _ h => h) (by rfl) ?_ hHeld ?_
                rotate_left 1
                · intro w' hSw; (try dsimp only at hSw); go_simp <;> with_reducible rfl
                try simp only [Act.put, List.setIfInBounds_toArray, List.set_cons_zero, List.set_cons_succ]
                refine takeH 10 (v := ?_) rfl (by kernel_rfl) (fun _ _ _ h => h) (by rfl) ?_ hHeld ?_
                rotate_left 1
                · intro w' hSw; (try dsimp only at hSw); go_simp <;> with_reducible rfl
                try simp only [Act.put, List.setIfInBounds_toArray, List.set_cons_zero, List.set_cons_succ]
                refine takeH 11 (v := ?_) rfl (by kernel_rfl) (fun _ _ _ h => h) (by rfl) ?_ hHeld ?_
                rotate_left 1
                · intro w' hSw; (try dsimp only at hSw); go_simp <;> with_reducible rfl
                try simp only [Act.put, List.setIfInBounds_toArray, List.set_cons_zero, List.set_cons_succ]
                refine takeH 12 (v := ?_) rfl (by kernel_rfl) (fun _ _ _ h => h) (by rfl) ?_ hHeld ?_
                rotate_left 1
                · intro w' hSw; (try dsimp only at hSw); go_simp <;> with_reducible rfl
                try simp only [Act.put, List.setIfInBounds_toArray, List.set_cons_zero, List.set_cons_succ]
                refine takeH 13 (v := ?_) rfl (by kernel_rfl) (fun _ _ _ h => h) (by rfl) ?_ hHeld ?_
                rotate_left 1
                · intro w' hSw; (try dsimp only at hSw); go_simp <;> with_reducible rfl
                try simp only [Act.put, List.setIfInBounds_toArray, List.set_cons_zero, List.set_cons_succ]
                refine takeH 14 (v := ?_) rfl (by kernel_rfl) (fun _ _ _ h => h) (by rfl) ?_ hHeld ?_
                rotate_left 1
                · intro w' hSw; (try dsimp only at hSw); go_simp <;> with_reducible rfl
                try simp only [Act.put, List.setIfInBounds_toArray, List.set_cons_zero, List.set_cons_succ]
                refine takeH 15 (v := ?_) rfl (by kernel_rfl) (fun _ _ _ h => h) (by rfl) ?_ hHeld ?_
                rotate_left 1
                · intro w' hSw; (try dsimp only at hSw); go_simp <;> with_reducible rfl
                try simp only [Act.put, List.setIfInBounds_toArray, List.set_cons_zero, List.set_cons_succ]
                refine wpAnyH_done (by kernel_rfl) ?_ _
                refine lastQ_go (by rfl) ?_
                have HB3 := Lib.hid (((below_drewN HB1.out 1).setCell (p := ⟨wo.heap.size, e.a, none⟩) (Nat.le_refl _) (.bool vb)))
                have HN3 := Lib.hid (blk_bset (HN1.out.drew) e.a vb)
                have ca2 : W1.drew.cell? ⟨wo.heap.size, e.a, none⟩ = some (.bool false) := ca1
                have cf2 : W1.drew.frozen? ⟨wo.heap.size, e.a, none⟩ = false := HN1.out.frozen e.a
                go_simp
                go_wp2_with fail
                go_roundw
                case rel => exact ⟨j + 1, _, by omega, by go_num, HB3.out, HN3.out, by have h := HST.out; simpa using h⟩
                case measure => simp [intOf]; omega
        · have hjj : j = es.length := by omega
          subst hjj
          have HLN : Hid (LsF src.length nxt (wstep es nm f)) := Lib.hid ⟨HLS2.out.1, fun v hv => by rw [HLS2.out.2 v hv, wstK_all]⟩
          have HGN : Hid (wgo es (l.drop (k + 1)) (wstep es nm f) place = wgo es l (fun v => src.getD v false) place) := Lib.hid (by rw [← HGO.out, HDR.out]; rfl)
          have HBN := Lib.hid (HBo.out.trans (HB2.out.mono hwos))
          have hnl := HN2.out.lt
          go_wp2_with fail
          go_roundw
          case rel => exact ⟨k + 1, wo.heap.size, src.length, nxt, wstep es nm f, by omega, by go_num, rfl, Nat.le_refl _, HBN.out, hwos, HLN.out, fun j hj => bool_at HN2.out (by rw [HLN.out.1]; exact hj), hnl, HGN.out⟩
          case measure => simp [intOf]; omega
    · have hkk : k = ln := by omega
      subst hkk
      have hd : l.drop k = [] := List.drop_eq_nil_iff.2 (by have := HLL.out; omega)
      have hres : f place = wgo es l (fun v => src.getD v false) place := by have h := HGO.out; rw [hd] at h; exact h
      have hc := HCE.out place hp
      rw [HLS.out.2 place hp, hres] at hc
      have hpI : (place : Int) < (src.length : Int) := by omega
      clear hd hres
      generalize wgo es l (fun v => src.getD v false) place = r at *
      go_wp2_with fail
      go_ret
      rw [HP.out]
      exact ⟨HB.out, rfl⟩
end Go.Proofs.Ythedpegaelpbdaa
