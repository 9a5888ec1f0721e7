/- choose.search: the walk. -/
import Derived.Test.YthedpegaelpbdaaGE
import Derived.Test.YthedpegaelpbdaaGQ
import Derived.Test.YthedpegaelpbdaaV2
import Derived.Test.YthedpegaelpbdaaG2
import Derived.StillTailTactics
import Derived.Deep.LoopGhost
namespace Go.Proofs.Ythedpegaelpbdaa
open Go.ChangeShapes Go.WideShapes Go.ChangeAt Go.RowKit
set_option linter.unusedVariables false
attribute [local go_sem ↓] execOp_call_val
attribute [local go_sem] callVal_func setCell_drewN alloc_drewN

theorem Qu.far {w : World} {base : Nat} {v : Value} {xs : List Value} (h : Qu w base v xs) {q : Addr} (hq : q.block < base) (u : Value) : Qu (w.setCell q u) base v xs := by
  obtain ⟨g, off, cap, h1, h2, h3, h4, h5, h6, h7⟩ := h.ex
  have hb : Below q.block w (w.setCell q u) := (Below.refl _ w).setCell (Nat.le_refl _) u
  have hc : ∀ j, (w.setCell q u).cell? ⟨g, off + j, none⟩ = w.cell? ⟨g, off + j, none⟩ := fun j => World.cell?_setCell_other _ _ _ _ (fun e => by subst e; simp at hq; omega)
  have hfz : ∀ j, (w.setCell q u).frozen? ⟨g, off + j, none⟩ = w.frozen? ⟨g, off + j, none⟩ := fun j => by
    obtain ⟨qb, qo, qs⟩ := q
    cases qs with
    | none => exact World.frozen?_setCells qb [u] qo w _
    | some s => simp
  exact ⟨g, off, cap, h1, h2, Nat.lt_of_lt_of_le h3 hb.size, h4, h5, fun j hj => by rw [hc, hfz]; exact h6 j hj, fun j x hx => by rw [hc]; exact h7 j x hx⟩
theorem ints_cons (x : Int) (xs : List Int) : ints (x :: xs) = .int .i64 x :: ints xs := rfl
def natI (l : List Nat) : List Int := l.map fun (v : Nat) => (v : Int)
/-- a field, as it lies behind a pointer -/
structure FdIs (w : World) (p : Nat) (A : Option Addr) (c : Nat) (es : List Ed) (place : Nat) (sA : Option Addr) (sc : Nat) (src : List Bool) : Prop where
  blk : Blk w p 107 #[.slice A es.length c, .int .i64 place, .slice sA src.length sc, .int .i64 src.length]
  eds : RdEd w w.heap.size A es.length es
  srs : Rd w w.heap.size 1 sA src.length (src.map Value.bool)
theorem FdIs.up {w w' : World} {p : Nat} {A : Option Addr} {c : Nat} {es : List Ed} {place : Nat} {sA : Option Addr} {sc : Nat} {src : List Bool} (h : FdIs w p A c es place sA sc src) (hb : Below w.heap.size w w') : FdIs w' p A c es place sA sc src :=
  ⟨h.blk.below hb h.blk.lt, ⟨h.eds.1, (h.eds.2.below hb (Nat.le_refl _)).more hb.size⟩, (h.srs.below hb (Nat.le_refl _)).more hb.size⟩
theorem infoInt : (Try.prog.info? 3).map (fun i => (i.zero, i.size, i.bytes)) = some (some (.int .i64 0), 1, 8) := by kernel_rfl
def SrchP (es : List Ed) (src : List Bool) (place : Nat) (w : World) (e : Ending) (w' : World) : Prop :=
  Below w.heap.size w w' ∧ ∃ g : Nat, e = .returned (.tuple #[.slice (some ⟨g, 0, none⟩) src.length src.length, .int .i64 (bfsR goR es src src.length place).2]) ∧ w.heap.size ≤ g ∧ Blk w' g 3 (ints (bfsR goR es src src.length place).1).toArray
theorem bfs_src {go : Ed → Nat → Bool} {es : List Ed} {src : List Bool} {m : Nat} {by_ : List Int} {u : Nat} {t : List Nat} (hm : 0 < m) (h : src.getD u false = true) : bfs go es src m by_ (u :: t) = (by_, (u : Int)) := by
  obtain ⟨k, rfl⟩ : ∃ k, m = k + 1 := ⟨m - 1, by omega⟩
  show (if src.getD u false = true then _ else _) = _
  rw [if_pos h]
theorem bfs_on {go : Ed → Nat → Bool} {es : List Ed} {src : List Bool} {m : Nat} {by_ : List Int} {u : Nat} {t : List Nat} (hm : 0 < m) (h : src.getD u false = false) : bfs go es src m by_ (u :: t) = bfs go es src (m - 1) (scan go u 0 es (by_, t)).1 (scan go u 0 es (by_, t)).2 := by
  obtain ⟨k, rfl⟩ : ∃ k, m = k + 1 := ⟨m - 1, by omega⟩
  show (if src.getD u false = true then _ else _) = _
  rw [if_neg (by rw [h]; simp)]; rfl
theorem bfs_nil {go : Ed → Nat → Bool} {es : List Ed} {src : List Bool} {m : Nat} {by_ : List Int} : bfs go es src m by_ [] = (by_, -1) := by cases m <;> rfl
set_option maxRecDepth 100000 in
set_option maxHeartbeats 8000000 in
theorem search_any (p : Nat) (A : Option Addr) (c : Nat) (es : List Ed) (place : Nat) (sA : Option Addr) (sc : Nat) (src : List Bool) (w : World) (hF : FdIs w p A c es place sA sc src)
    (ok : ∀ e ∈ es, EdOk src.length e) (hp : place < src.length) (hn : src.length ≤ 1000) (he : es.length ≤ 1000) (hfl : ∀ e ∈ es, -100000 ≤ e.fl ∧ e.fl ≤ 100000) :
    Calls Try.prog 40 #[.pointer (some ⟨p, 0, none⟩)] w (SrchP es src place w) := by
  have HF := Lib.hid hF
  have HOK := Lib.hid ok
  have HFL := Lib.hid hfl
  have HP : Hid (∀ e w', SrchP es src place w e w' = (Below w.heap.size w w' ∧ ∃ g : Nat, e = .returned (.tuple #[.slice (some ⟨g, 0, none⟩) src.length src.length, .int .i64 (bfsR goR es src src.length place).2]) ∧ w.heap.size ≤ g ∧ Blk w' g 3 (ints (bfsR goR es src src.length place).1).toArray)) := Lib.hid fun _ _ => rfl
  have hplt := hF.blk.lt
  clear hF ok hfl
  obtain ⟨i0, hi0, hi1, hi2, hi3⟩ := info_parts infoInt
  have HI0 := Lib.hid hi0
  have HI1 := Lib.hid hi1
  have HI2 := Lib.hid hi2
  have HI3 : Hid (i0.bytes ≤ 16) := Lib.hid (by rw [hi3]; decide)
  clear hi0 hi1 hi2 hi3
  have HB1 : Hid (Below w.heap.size w (w.alloc (.cells #[.int .i64 (-1)] 3))) := Lib.hid ((Below.refl _ _).alloc (Nat.le_refl _) _)
  have hF1 := HF.out.up HB1.out
  have HF1 := Lib.hid hF1
  have f1 := hF1.blk.cell 1
  have f3 := hF1.blk.cell 3
  have hm1 : (w.alloc (.cells #[.int .i64 (-1)] 3)).cell? ⟨w.heap.size, 0, none⟩ = some (.int .i64 (-1)) := (Blk.new w 3 #[.int .i64 (-1)]).cell 0
  have hlt1 : p < (w.alloc (.cells #[.int .i64 (-1)] 3)).heap.size := by simp; omega
  clear hF1
  go_enter Try.func40, Try.ntmps40
  generalize hW1 : w.alloc (.cells #[.int .i64 (-1)] 3) = w1 at *
  go_wp2_with fail
  refine (repeat_int (-1) w.heap.size src.length w1 hm1 hn).mono ?_
  rintro e w2 ⟨g, rfl, hg, hblk, k2⟩
  have HB2 := Lib.hid (HB1.out.trans (k2.mono HB1.out.size))
  have hF2 := HF1.out.up k2
  have HF2 := Lib.hid hF2
  have f1' := hF2.blk.cell 1
  have HG := Lib.hid hblk
  have hglt := hblk.lt
  have hp2 := Nat.lt_of_lt_of_le hlt1 k2.size
  have hpI : (place : Int) < (src.length : Int) := by omega
  have hwg : w.heap.size < g := by have h := HB1.out.size; have : w.heap.size < w1.heap.size := by rw [← hW1]; simp
                                   omega
  have hcg : w2.cell? ⟨g, place, none⟩ = some (.int .i64 (-1)) := by rw [hblk.cell place]; simp [hp]
  have hfg := hblk.frozen place
  have hne : p ≠ g := by omega
  have hne' : g ≠ p := by omega
  clear hF2 hblk k2 hm1 f1 f3
  have f1s : (w2.setCell ⟨g, place, none⟩ (.int .i64 (-2))).cell? ⟨p, 1, none⟩ = some (.int .i64 place) := by
    rw [World.cell?_setCell_other _ _ _ _ (fun e => hne' (by injection e))]; exact f1'
  have HB3 := Lib.hid (HB2.out.setCell (p := ⟨g, place, none⟩) (by simp; omega) (.int .i64 (-2)))
  have HG3 : Hid (Blk (w2.setCell ⟨g, place, none⟩ (.int .i64 (-2))) g 3 (ints (start src.length place)).toArray) := Lib.hid (by
    have h := HG.out.set_ place (.int .i64 (-2))
    have e : (List.replicate src.length (Value.int .i64 (-1))).toArray.setIfInBounds place (.int .i64 (-2)) = (ints (start src.length place)).toArray := by
      unfold ints start
      rw [List.setIfInBounds_toArray, List.map_set, List.map_replicate]
    rw [e] at h; exact h)
  go_wp2_with fail
  have HQ0 : Hid (Qu ((w2.setCell ⟨g, place, none⟩ (.int .i64 (-2))).alloc (.cells #[.int .i64 place] 3)) (g + 1) (.slice (some ⟨w2.heap.size, 0, none⟩) 1 1) (ints (natI [place]))) := Lib.hid (by
    have hb := Blk.new (w2.setCell ⟨g, place, none⟩ (.int .i64 (-2))) 3 #[.int .i64 place]
    have hsz : (w2.setCell ⟨g, place, none⟩ (.int .i64 (-2))).heap.size = w2.heap.size := by simp
    rw [hsz] at hb
    refine ⟨w2.heap.size, 0, 1, rfl, by omega, hb.lt, Nat.le_refl _, by simp only [maxLen]; omega, fun j hj => ?_, fun j u hu => ?_⟩
    · have hj0 : j = 0 := by omega
      subst hj0
      exact ⟨by rw [hb.cell 0]; rfl, hb.frozen 0⟩
    · have hj0 : j = 0 := by have := (List.getElem?_eq_some_iff.1 hu).1; simpa [ints, natI] using this
      subst hj0
      rw [Nat.add_zero, hb.cell 0]
      simpa [ints, natI] using hu)
  have HB4 := Lib.hid (HB3.out.alloc HB3.out.size (.cells #[.int .i64 place] 3))
  have HG4 := Lib.hid (HG3.out.alloc (.cells #[.int .i64 place] 3))
  have hs4 : g + 1 ≤ ((w2.setCell ⟨g, place, none⟩ (.int .i64 (-2))).alloc (.cells #[.int .i64 place] 3)).heap.size := by simp; omega
  generalize hW4 : (w2.setCell ⟨g, place, none⟩ (.int .i64 (-2))).alloc (.cells #[.int .i64 place] 3) = w4 at *
  have HW4 := Lib.hid hW4
  have HW1 := Lib.hid hW1
  clear hW4 hW1 f1s f1' hcg hfg HG HG3 HB3 HF1 HF2
  go_loopg [5] (src.length + 1) (fun m v5 wr => ∃ (by_ : List Int) (vis : List Nat) (d : Nat), BI goR es src src.length place by_ vis d ∧ bfs goR es src m by_ (vis.drop d) = bfsR goR es src src.length place ∧ m + d ≤ src.length + 1 ∧ src.length + 1 ≤ m + d ∧ Below w.heap.size w wr ∧ Blk wr g 3 (ints by_).toArray ∧ Qu wr (g + 1) v5 (ints (natI (vis.drop d))) ∧ g + 1 ≤ wr.heap.size)
  case atStart => exact ⟨start src.length place, [place], 0, BI.start hp, rfl, by omega, by omega, HB4.out, HG4.out, HQ0.out, hs4⟩
  case round =>
    clear HB4 HG4 HQ0 HW4 HW1 hs4 HB2 HB1
    obtain ⟨by_, vis, d, hBI, hfun, hm1, hm2, hb, hblk, hq, hs⟩ := hrel
    have HBI := Lib.hid hBI
    have HFUN := Lib.hid hfun
    have HB := Lib.hid hb
    have HG := Lib.hid hblk
    have hvl := hBI.len_le
    have hbl := hBI.len
    obtain ⟨q, qo, qc, rfl, hqg, hqlt, hqc, hqm, hqh, hqx⟩ := hq.ex
    have hql : (ints (natI (vis.drop d))).length = vis.length - d := by simp [ints, natI]
    rw [hql] at hqc hq ⊢
    have HQ := Lib.hid hq
    clear hBI hb hblk hq hfun
    by_cases hd : d < vis.length
    · obtain ⟨u, hu⟩ : ∃ u, vis[d]? = some u := ⟨_, List.getElem?_eq_getElem hd⟩
      have hdr : vis.drop d = u :: vis.drop (d + 1) := by
        rw [List.drop_eq_getElem_cons hd]
        rw [List.getElem?_eq_getElem hd] at hu; injection hu with hu; rw [hu]
      have hul := HBI.out.lt u (List.mem_of_getElem? hu)
      have hq0 := hqx 0 (.int .i64 u) (by rw [hdr]; rfl)
      rw [Nat.add_zero] at hq0
      have HF4 := Lib.hid (HF.out.up HB.out)
      have f2 := HF4.out.blk.cell 2
      have f0 := HF4.out.blk.cell 0
      have hsr := HF4.out.srs
      obtain ⟨sb, so, hsA, hsb, hsx⟩ := hsr.2 (by omega)
      subst hsA
      have hsu := hsx u (.bool (src.getD u false)) (by rw [List.getElem?_map, List.getD_eq_getElem?_getD, List.getElem?_eq_getElem hul]; rfl)
      have hpw : p < wr.heap.size := Nat.lt_of_lt_of_le hplt HB.out.size
      have hqlI : (0 : Int) < ((vis.length - d : Nat) : Int) := by omega
      have hq1 : 1 ≤ vis.length - d := by omega
      have hqd : decide (0 < vis.length - d) = true := by simp; omega
      have huI : (u : Int) < (src.length : Int) := by omega
      have hqt : Qu wr (g + 1) (.slice (if qc = 1 then some ⟨q, qo, none⟩ else some ⟨q, qo + 1, none⟩) (vis.length - d - 1) (qc - 1)) (ints (natI (vis.drop (d + 1)))) := by
        have h := HQ.out
        rw [hdr] at h
        exact h.tail
      generalize hqa : (if qc = 1 then some (⟨q, qo, none⟩ : Addr) else some ⟨q, qo + 1, none⟩) = qa at hqt
      have HQT := Lib.hid hqt
      have HU := Lib.hid hu
      have HDR := Lib.hid hdr
      clear hqt hu hqx hqh hsr hsx hdr
      cases hsv : src.getD u false with
      | true =>
        rw [hsv] at hsu
        have HSV := Lib.hid hsv
        clear hsv
        go_wp2_with fail
        go_ret2
        rw [HP.out]
        have hR : bfsR goR es src src.length place = (by_, (u : Int)) := by rw [← HFUN.out, HDR.out, bfs_src (by omega) HSV.out]
        rw [hR]
        exact ⟨HB.out, g, rfl, by omega, HG.out⟩
      | false =>
        rw [hsv] at hsu
        have HSV := Lib.hid hsv
        clear hsv
        go_wp2_with fail
        have hwo := HB.out.size
        obtain ⟨S0, hS0⟩ : ∃ S0, S0 = scan goR u 0 es (by_, vis.drop (d + 1)) := ⟨_, rfl⟩
        have HS0 := Lib.hid hS0
        clear hS0
        go_loopw [5, 49] (fun v5 kv wr => ∃ (k : Nat) (by_ : List Int) (vis : List Nat), k ≤ es.length ∧ kv = .int .i64 k ∧ BI goR es src src.length place by_ vis d ∧ vis[d]? = some u ∧ Seen goR es u k vis ∧ scan goR u k (es.drop k) (by_, vis.drop (d + 1)) = S0 ∧ Below w.heap.size w wr ∧ Blk wr g 3 (ints by_).toArray ∧ Qu wr (g + 1) v5 (ints (natI (vis.drop (d + 1)))) ∧ g + 1 ≤ wr.heap.size) (fun _ kv _ => es.length - (intOf kv).toNat)
        case atStart => exact ⟨0, by_, vis, by omega, rfl, HBI.out, HU.out, fun j e hj => by omega, HS0.out.symm, HB.out, HG.out, HQT.out, hs⟩
        case round =>
          obtain ⟨k, by2, vis2, hk, rfl, hBI2, hu2, hseen, hsc, hb2, hblk2, hq2, hs2⟩ := hrel
          have HBI2 := Lib.hid hBI2
          have HU2 := Lib.hid hu2
          have HSN := Lib.hid hseen
          have HSC := Lib.hid hsc
          have HB2 := Lib.hid hb2
          have HG2 := Lib.hid hblk2
          have HQ2 := Lib.hid hq2
          have hvl2 := hBI2.len_le
          have hdl2 := (List.getElem?_eq_some_iff.1 hu2).1
          clear hBI2 hu2 hseen hsc hb2 hblk2 hq2
          by_cases hlt : k < es.length
          · obtain ⟨e, hek⟩ : ∃ e, es[k]? = some e := ⟨_, List.getElem?_eq_getElem hlt⟩
            have hF5 := HF.out.up HB2.out
            obtain ⟨eb, eo, heA, heb⟩ := hF5.eds.form (by omega)
            subst heA
            obtain ⟨e0, e1, e2, e3, e4⟩ := hF5.eds.at_ hek
            have hok := HOK.out e (List.mem_of_getElem? hek)
            obtain ⟨hea, heb2, hab⟩ := hok
            have hkI : (k : Int) < (es.length : Int) := by omega
            have HBI3 := HBI2.out.scan1 HU2.out hek HOK.out HSN.out
            have HEK := Lib.hid hek
            have HSC2 : Hid (scan goR u (k + 1) (es.drop (k + 1)) (scan1 goR u k e (by2, vis2.drop (d + 1))) = S0) := Lib.hid (by
              rw [← HSC.out, drop_cons hek]; rfl)
            have HBA := Lib.hid (HB2.out.alloc HB2.out.size (.cells #[.int .i64 e.a, .int .i64 e.b, .string e.name, .bool e.brk, .int .i64 e.fl] 104))
            have HGA := Lib.hid (HG2.out.alloc (.cells #[.int .i64 e.a, .int .i64 e.b, .string e.name, .bool e.brk, .int .i64 e.fl] 104))
            have HQA := Lib.hid (HQ2.out.up ((Below.refl _ _).alloc (Nat.le_refl _) (.cells #[.int .i64 e.a, .int .i64 e.b, .string e.name, .bool e.brk, .int .i64 e.fl] 104)))
            obtain ⟨b0, b1, b2, b3, b4⟩ := Ed.box (x := e) (Blk.new wr 104 (edV e))
            clear hF5 hek
            unfold scan1 at HBI3 HSC2
            by_cases hh : e.hits u
            · by_cases ha : e.a = u
              · subst ha
                have hna : ((e.a : Int) != (e.a : Int)) = false := by simp
                have ho : e.oth e.a = e.b := by unfold Ed.oth; omega
                rw [ho] at HBI3 HSC2
                have hgl : g < wr.heap.size := by omega
                have hby : (wr.alloc (.cells #[.int .i64 e.a, .int .i64 e.b, .string e.name, .bool e.brk, .int .i64 e.fl] 104)).cell? ⟨g, e.b, none⟩ = some (.int .i64 (by2.getD e.b 0)) := by
                  have hl2 := HBI2.out.len
                  rw [HGA.out.cell, List.getElem?_toArray]
                  unfold ints
                  rw [List.getElem?_map, List.getD_eq_getElem?_getD, List.getElem?_eq_getElem (by omega)]; rfl
                have hoI : (e.b : Int) < (src.length : Int) := by omega
                have HFLe := Lib.hid (HFL.out e (List.mem_of_getElem? HEK.out))
                generalize hz : by2.getD e.b 0 = z at hby
                by_cases hz1 : z = -1
                · subst hz1
                  have hnew := hz
                  cases hgo : goR e e.a with
                  | true =>
                    have HGO := Lib.hid hgo
                    have hrm : decide (0 < e.room e.a) = true := hgo
                    rw [if_pos ⟨hh, hnew, hgo⟩] at HBI3
                    rw [if_pos ⟨hh, hnew, hgo⟩] at HSC2
                    obtain ⟨by3, vis3, h1, h2, h3, h4⟩ := HBI3
                    obtain ⟨q1, q2⟩ := Prod.mk.inj h1
                    subst q1
                    have HQ2' := Lib.hid q2
                    clear h1 q2 hgo hnew hz
                    have hlen3 : (ints (natI (vis2.drop (d + 1)))).length ≤ 1000000 := by simp [ints, natI]; omega
                    go_wp2_with fail
                    refine (room_any _ e e.a HFLe.out _).mono ?_
                    rintro r w6 ⟨rfl, hw6⟩
                    have HB6 : Hid (Below w.heap.size w w6) := Lib.hid (by rw [hw6]; exact HBA.out.alloc HBA.out.size _)
                    have HG6 : Hid (Blk w6 g 3 (ints by2).toArray) := Lib.hid (by rw [hw6]; exact HGA.out.alloc _)
                    have HQ6 : Hid (Qu w6 (g + 1) u5 (ints (natI (vis2.drop (d + 1))))) := Lib.hid (by rw [hw6]; exact HQA.out.up ((Below.refl _ _).alloc (Nat.le_refl _) _))
                    have hs6 : g + 1 ≤ w6.heap.size := by rw [hw6]; simp; omega
                    have hc6 : w6.cell? ⟨g, e.b, none⟩ = some (.int .i64 (-1)) := by rw [hw6]; exact (HGA.out.alloc (.cells (edV e) 104)).cell _ |>.trans (by rw [← HGA.out.cell]; exact hby)
                    have hf6 := HG6.out.frozen e.b
                    clear hw6 hby
                    have HB7 := Lib.hid (HB6.out.setCell (p := ⟨g, e.b, none⟩) (by simp; omega) (.int .i64 k))
                    have HG7 : Hid (Blk (w6.setCell ⟨g, e.b, none⟩ (.int .i64 k)) g 3 (ints (by2.set e.b k)).toArray) := Lib.hid (by
                      have h := HG6.out.set_ e.b (.int .i64 k)
                      rw [show (ints by2).toArray.setIfInBounds e.b (.int .i64 k) = (ints (by2.set e.b k)).toArray from by unfold ints; rw [List.setIfInBounds_toArray, List.map_set]] at h
                      exact h)
                    have HQ7 := Lib.hid (HQ6.out.far (q := ⟨g, e.b, none⟩) (by simp) (.int .i64 k))
                    generalize hw7 : w6.setCell ⟨g, e.b, none⟩ (.int .i64 k) = w7 at HB7 HG7 HQ7
                    have hs7 : w6.heap.size = w7.heap.size := by rw [← hw7]; simp
                    have HB8 : Hid (Below w.heap.size w ((w6.setCell ⟨g, e.b, none⟩ (.int .i64 k)).alloc (.cells #[.int .i64 ((e.a : Int) + e.b - e.a)] 3))) := Lib.hid (by rw [hw7]; exact HB7.out.alloc HB7.out.size (.cells #[.int .i64 ((e.a : Int) + e.b - e.a)] 3))
                    have HG8 : Hid (Blk ((w6.setCell ⟨g, e.b, none⟩ (.int .i64 k)).alloc (.cells #[.int .i64 ((e.a : Int) + e.b - e.a)] 3)) g 3 (ints (by2.set e.b k)).toArray) := Lib.hid (by rw [hw7]; exact HG7.out.alloc (.cells #[.int .i64 ((e.a : Int) + e.b - e.a)] 3))
                    have HQ8 : Hid (Qu ((w6.setCell ⟨g, e.b, none⟩ (.int .i64 k)).alloc (.cells #[.int .i64 ((e.a : Int) + e.b - e.a)] 3)) (g + 1) u5 (ints (natI (vis2.drop (d + 1))))) := Lib.hid (by rw [hw7]; exact HQ7.out.up ((Below.refl _ _).alloc (Nat.le_refl _) (.cells #[.int .i64 ((e.a : Int) + e.b - e.a)] 3)))
                    have HC8 : Hid (((w6.setCell ⟨g, e.b, none⟩ (.int .i64 k)).alloc (.cells #[.int .i64 ((e.a : Int) + e.b - e.a)] 3)).cell? ⟨w6.heap.size, 0, none⟩ = some (.int .i64 ((e.a : Int) + e.b - e.a))) := Lib.hid (by rw [hw7, hs7]; exact (Blk.new w7 3 #[.int .i64 ((e.a : Int) + e.b - e.a)]).cell 0)
                    have hs8 : g + 1 ≤ ((w6.setCell ⟨g, e.b, none⟩ (.int .i64 k)).alloc (.cells #[.int .i64 ((e.a : Int) + e.b - e.a)] 3)).heap.size := by rw [hw7]; simp; omega
                    clear hs7 hw7 HB7 HG7 HQ7 HB6 HG6 HQ6
                    go_wp2_with (at_builtin; refine wpList_append_q _ rfl (.tmp 87) (.tmp 89) 61 rfl (g + 1) 3 i0 (.int .i64 0) Try.underlying61 HI0.out HI1.out HI2.out HI3.out rfl u5 _ rfl HQ8.out ⟨w6.heap.size, 0, none⟩ 1 _ rfl HC8.out rfl rfl hlen3 hs8 ?_; intro v' w9 hq9 hb9)
                    go_roundw
                    case rel =>
                      have hq : ints (natI (vis2.drop (d + 1))) ++ [Value.int .i64 ((e.a : Int) + e.b - e.a)] = ints (natI (vis3.drop (d + 1))) := by
                        rw [← HQ2'.out]
                        unfold ints natI
                        rw [List.map_append, List.map_append]
                        congr 1 <;> first | rfl | (show [Value.int .i64 ((e.a : Int) + e.b - e.a)] = [Value.int .i64 (e.b : Int)]; congr 2; omega)
                      rw [hq] at hq9
                      exact ⟨k + 1, _, vis3, by omega, by go_num, h2, h3, h4, by rw [← HQ2'.out]; exact HSC2.out, HB8.out.trans (hb9.mono (by omega)), HG8.out.below hb9 (by omega), hq9, Nat.le_trans hs8 hb9.size⟩
                    case measure => simp [intOf]; omega
                  | false =>
                    have hrm : decide (0 < e.room e.a) = false := hgo
                    rw [if_neg (fun h => by rw [hgo] at h; exact absurd h.2.2 (by simp))] at HBI3
                    rw [if_neg (fun h => by rw [hgo] at h; exact absurd h.2.2 (by simp))] at HSC2
                    obtain ⟨by3, vis3, h1, h2, h3, h4⟩ := HBI3
                    have H1 := Lib.hid h1
                    obtain ⟨q1, q2⟩ := Prod.mk.inj h1
                    have Q1 := Lib.hid q1
                    have Q2 := Lib.hid q2
                    clear h1 q1 q2 hgo hnew hz
                    go_wp2_with fail
                    refine (room_any _ e e.a HFLe.out _).mono ?_
                    rintro r w6 ⟨rfl, hw6⟩
                    have HB6 : Hid (Below w.heap.size w w6) := Lib.hid (by rw [hw6]; exact HBA.out.alloc HBA.out.size _)
                    have HG6 : Hid (Blk w6 g 3 (ints by2).toArray) := Lib.hid (by rw [hw6]; exact HGA.out.alloc _)
                    have HQ6 : Hid (Qu w6 (g + 1) u5 (ints (natI (vis2.drop (d + 1))))) := Lib.hid (by rw [hw6]; exact HQA.out.up ((Below.refl _ _).alloc (Nat.le_refl _) _))
                    have hs6 : g + 1 ≤ w6.heap.size := by rw [hw6]; simp; omega
                    clear hw6 hby
                    go_wp2_with fail
                    go_roundw
                    case rel => exact ⟨k + 1, by3, vis3, by omega, by go_num, h2, h3, h4, by rw [← H1.out]; exact HSC2.out, HB6.out, by rw [← Q1.out]; exact HG6.out, by rw [← Q2.out]; exact HQ6.out, hs6⟩
                    case measure => simp [intOf]; omega
                · have hnb : (z == -1) = false := by simpa using hz1
                  have hnew : by2.getD e.b 0 ≠ -1 := by rw [hz]; exact hz1
                  clear hz
                  rw [if_neg (fun h => hnew h.2.1)] at HBI3
                  rw [if_neg (fun h => hnew h.2.1)] at HSC2
                  obtain ⟨by3, vis3, h1, h2, h3, h4⟩ := HBI3
                  have H1 := Lib.hid h1
                  obtain ⟨q1, q2⟩ := Prod.mk.inj h1
                  have Q1 := Lib.hid q1
                  have Q2 := Lib.hid q2
                  clear h1 q1 q2 hnew
                  go_wp2_with fail
                  go_roundw
                  case rel => exact ⟨k + 1, by3, vis3, by omega, by go_num, h2, h3, h4, by rw [← H1.out]; exact HSC2.out, HBA.out, by rw [← Q1.out]; exact HGA.out, by rw [← Q2.out]; exact HQA.out, by simp; omega⟩
                  case measure => simp [intOf]; omega
              · have hb : e.b = u := hh.resolve_left ha
                subst hb
                have hna : ((e.a : Int) != (e.b : Int)) = true := by simp; omega
                have hnb0 : ((e.b : Int) != (e.b : Int)) = false := by simp
                have ho : e.oth e.b = e.a := by unfold Ed.oth; omega
                rw [ho] at HBI3 HSC2
                have hgl : g < wr.heap.size := by omega
                have hby : (wr.alloc (.cells #[.int .i64 e.a, .int .i64 e.b, .string e.name, .bool e.brk, .int .i64 e.fl] 104)).cell? ⟨g, e.a, none⟩ = some (.int .i64 (by2.getD e.a 0)) := by
                  have hl2 := HBI2.out.len
                  rw [HGA.out.cell, List.getElem?_toArray]
                  unfold ints
                  rw [List.getElem?_map, List.getD_eq_getElem?_getD, List.getElem?_eq_getElem (by omega)]; rfl
                have hoI : (e.a : Int) < (src.length : Int) := by omega
                have HFLe := Lib.hid (HFL.out e (List.mem_of_getElem? HEK.out))
                generalize hz : by2.getD e.a 0 = z at hby
                by_cases hz1 : z = -1
                · subst hz1
                  have hnew := hz
                  cases hgo : goR e e.b with
                  | true =>
                    have HGO := Lib.hid hgo
                    have hrm : decide (0 < e.room e.b) = true := hgo
                    rw [if_pos ⟨hh, hnew, hgo⟩] at HBI3
                    rw [if_pos ⟨hh, hnew, hgo⟩] at HSC2
                    obtain ⟨by3, vis3, h1, h2, h3, h4⟩ := HBI3
                    obtain ⟨q1, q2⟩ := Prod.mk.inj h1
                    subst q1
                    have HQ2' := Lib.hid q2
                    clear h1 q2 hgo hnew hz
                    have hlen3 : (ints (natI (vis2.drop (d + 1)))).length ≤ 1000000 := by simp [ints, natI]; omega
                    go_wp2_with fail
                    refine (room_any _ e e.b HFLe.out _).mono ?_
                    rintro r w6 ⟨rfl, hw6⟩
                    have HB6 : Hid (Below w.heap.size w w6) := Lib.hid (by rw [hw6]; exact HBA.out.alloc HBA.out.size _)
                    have HG6 : Hid (Blk w6 g 3 (ints by2).toArray) := Lib.hid (by rw [hw6]; exact HGA.out.alloc _)
                    have HQ6 : Hid (Qu w6 (g + 1) u5 (ints (natI (vis2.drop (d + 1))))) := Lib.hid (by rw [hw6]; exact HQA.out.up ((Below.refl _ _).alloc (Nat.le_refl _) _))
                    have hs6 : g + 1 ≤ w6.heap.size := by rw [hw6]; simp; omega
                    have hc6 : w6.cell? ⟨g, e.a, none⟩ = some (.int .i64 (-1)) := by rw [hw6]; exact (HGA.out.alloc (.cells (edV e) 104)).cell _ |>.trans (by rw [← HGA.out.cell]; exact hby)
                    have hf6 := HG6.out.frozen e.a
                    clear hw6 hby
                    have HB7 := Lib.hid (HB6.out.setCell (p := ⟨g, e.a, none⟩) (by simp; omega) (.int .i64 k))
                    have HG7 : Hid (Blk (w6.setCell ⟨g, e.a, none⟩ (.int .i64 k)) g 3 (ints (by2.set e.a k)).toArray) := Lib.hid (by
                      have h := HG6.out.set_ e.a (.int .i64 k)
                      rw [show (ints by2).toArray.setIfInBounds e.a (.int .i64 k) = (ints (by2.set e.a k)).toArray from by unfold ints; rw [List.setIfInBounds_toArray, List.map_set]] at h
                      exact h)
                    have HQ7 := Lib.hid (HQ6.out.far (q := ⟨g, e.a, none⟩) (by simp) (.int .i64 k))
                    generalize hw7 : w6.setCell ⟨g, e.a, none⟩ (.int .i64 k) = w7 at HB7 HG7 HQ7
                    have hs7 : w6.heap.size = w7.heap.size := by rw [← hw7]; simp
                    have HB8 : Hid (Below w.heap.size w ((w6.setCell ⟨g, e.a, none⟩ (.int .i64 k)).alloc (.cells #[.int .i64 (e.a : Int)] 3))) := Lib.hid (by rw [hw7]; exact HB7.out.alloc HB7.out.size (.cells #[.int .i64 (e.a : Int)] 3))
                    have HG8 : Hid (Blk ((w6.setCell ⟨g, e.a, none⟩ (.int .i64 k)).alloc (.cells #[.int .i64 (e.a : Int)] 3)) g 3 (ints (by2.set e.a k)).toArray) := Lib.hid (by rw [hw7]; exact HG7.out.alloc (.cells #[.int .i64 (e.a : Int)] 3))
                    have HQ8 : Hid (Qu ((w6.setCell ⟨g, e.a, none⟩ (.int .i64 k)).alloc (.cells #[.int .i64 (e.a : Int)] 3)) (g + 1) u5 (ints (natI (vis2.drop (d + 1))))) := Lib.hid (by rw [hw7]; exact HQ7.out.up ((Below.refl _ _).alloc (Nat.le_refl _) (.cells #[.int .i64 (e.a : Int)] 3)))
                    have HC8 : Hid (((w6.setCell ⟨g, e.a, none⟩ (.int .i64 k)).alloc (.cells #[.int .i64 (e.a : Int)] 3)).cell? ⟨w6.heap.size, 0, none⟩ = some (.int .i64 (e.a : Int))) := Lib.hid (by rw [hw7, hs7]; exact (Blk.new w7 3 #[.int .i64 (e.a : Int)]).cell 0)
                    have hs8 : g + 1 ≤ ((w6.setCell ⟨g, e.a, none⟩ (.int .i64 k)).alloc (.cells #[.int .i64 (e.a : Int)] 3)).heap.size := by rw [hw7]; simp; omega
                    clear hs7 hw7 HB7 HG7 HQ7 HB6 HG6 HQ6
                    go_wp2_with (at_builtin; refine wpList_append_q _ rfl (.tmp 87) (.tmp 89) 61 rfl (g + 1) 3 i0 (.int .i64 0) Try.underlying61 HI0.out HI1.out HI2.out HI3.out rfl u5 _ rfl HQ8.out ⟨w6.heap.size, 0, none⟩ 1 _ rfl HC8.out rfl rfl hlen3 hs8 ?_; intro v' w9 hq9 hb9)
                    go_roundw
                    case rel =>
                      have hq : ints (natI (vis2.drop (d + 1))) ++ [Value.int .i64 (e.a : Int)] = ints (natI (vis3.drop (d + 1))) := by
                        rw [← HQ2'.out]
                        unfold ints natI
                        rw [List.map_append, List.map_append]
                        congr 1 <;> first | rfl | (show [Value.int .i64 (e.a : Int)] = [Value.int .i64 (e.a : Int)]; congr 2; omega)
                      rw [hq] at hq9
                      exact ⟨k + 1, _, vis3, by omega, by go_num, h2, h3, h4, by rw [← HQ2'.out]; exact HSC2.out, HB8.out.trans (hb9.mono (by omega)), HG8.out.below hb9 (by omega), hq9, Nat.le_trans hs8 hb9.size⟩
                    case measure => simp [intOf]; omega
                  | false =>
                    have hrm : decide (0 < e.room e.b) = false := hgo
                    rw [if_neg (fun h => by rw [hgo] at h; exact absurd h.2.2 (by simp))] at HBI3
                    rw [if_neg (fun h => by rw [hgo] at h; exact absurd h.2.2 (by simp))] at HSC2
                    obtain ⟨by3, vis3, h1, h2, h3, h4⟩ := HBI3
                    have H1 := Lib.hid h1
                    obtain ⟨q1, q2⟩ := Prod.mk.inj h1
                    have Q1 := Lib.hid q1
                    have Q2 := Lib.hid q2
                    clear h1 q1 q2 hgo hnew hz
                    go_wp2_with fail
                    refine (room_any _ e e.b HFLe.out _).mono ?_
                    rintro r w6 ⟨rfl, hw6⟩
                    have HB6 : Hid (Below w.heap.size w w6) := Lib.hid (by rw [hw6]; exact HBA.out.alloc HBA.out.size _)
                    have HG6 : Hid (Blk w6 g 3 (ints by2).toArray) := Lib.hid (by rw [hw6]; exact HGA.out.alloc _)
                    have HQ6 : Hid (Qu w6 (g + 1) u5 (ints (natI (vis2.drop (d + 1))))) := Lib.hid (by rw [hw6]; exact HQA.out.up ((Below.refl _ _).alloc (Nat.le_refl _) _))
                    have hs6 : g + 1 ≤ w6.heap.size := by rw [hw6]; simp; omega
                    clear hw6 hby
                    go_wp2_with fail
                    go_roundw
                    case rel => exact ⟨k + 1, by3, vis3, by omega, by go_num, h2, h3, h4, by rw [← H1.out]; exact HSC2.out, HB6.out, by rw [← Q1.out]; exact HG6.out, by rw [← Q2.out]; exact HQ6.out, hs6⟩
                    case measure => simp [intOf]; omega
                · have hnb : (z == -1) = false := by simpa using hz1
                  have hnew : by2.getD e.a 0 ≠ -1 := by rw [hz]; exact hz1
                  clear hz
                  rw [if_neg (fun h => hnew h.2.1)] at HBI3
                  rw [if_neg (fun h => hnew h.2.1)] at HSC2
                  obtain ⟨by3, vis3, h1, h2, h3, h4⟩ := HBI3
                  have H1 := Lib.hid h1
                  obtain ⟨q1, q2⟩ := Prod.mk.inj h1
                  have Q1 := Lib.hid q1
                  have Q2 := Lib.hid q2
                  clear h1 q1 q2 hnew
                  go_wp2_with fail
                  go_roundw
                  case rel => exact ⟨k + 1, by3, vis3, by omega, by go_num, h2, h3, h4, by rw [← H1.out]; exact HSC2.out, HBA.out, by rw [← Q1.out]; exact HGA.out, by rw [← Q2.out]; exact HQA.out, by simp; omega⟩
                  case measure => simp [intOf]; omega
            · rw [if_neg (fun h => hh h.1)] at HBI3
              rw [if_neg (fun h => hh h.1)] at HSC2
              obtain ⟨by3, vis3, h1, h2, h3, h4⟩ := HBI3
              have hna : ((e.a : Int) != (u : Int)) = true := by have : e.a ≠ u := fun h => hh (.inl h)
                                                                 simp; omega
              have hnb : ((e.b : Int) != (u : Int)) = true := by have : e.b ≠ u := fun h => hh (.inr h)
                                                                 simp; omega
              obtain ⟨q1, q2⟩ := Prod.mk.inj h1
              go_wp2_with fail
              go_roundw
              case rel => exact ⟨k + 1, by3, vis3, by omega, by go_num, h2, h3, h4, by rw [← h1]; exact HSC2.out, HBA.out, by rw [← q1]; exact HGA.out, by rw [← q2]; exact HQA.out, by simp; omega⟩
              case measure => simp [intOf]; omega
          · have hkk : k = es.length := by omega
            subst hkk
            go_wp2_with fail
            go_roundg (gk - 1)
            case rel => exact ⟨by2, vis2, d + 1, HBI2.out.next HU2.out HSN.out HSV.out, by rw [← HFUN.out, HDR.out, bfs_on (by omega) HSV.out, ← HS0.out, ← HSC.out, List.drop_length]; rfl, by omega, by omega, HB2.out, HG2.out, HQ2.out, hs2⟩
            case measure => omega
    · have hdv : d = vis.length := by have := HBI.out.dle; omega
      have hz : vis.length - d = 0 := by omega
      rw [hz]
      clear hqx hqh
      go_wp2_with fail
      go_ret2
      rw [HP.out]
      have hR : bfsR goR es src src.length place = (by_, -1) := by rw [← HFUN.out, List.drop_eq_nil_iff.2 (by omega), bfs_nil]
      rw [hR]
      exact ⟨HB.out, g, rfl, by omega, HG.out⟩
end Go.Proofs.Ythedpegaelpbdaa
