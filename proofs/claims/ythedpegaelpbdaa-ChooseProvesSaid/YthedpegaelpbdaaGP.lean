/- choose.push: the walk. -/
import Derived.Test.YthedpegaelpbdaaGW
import Derived.Test.YthedpegaelpbdaaG5
import Derived.Deep.QuietTactic
import Derived.BigQuiet
namespace Go.Proofs.Ythedpegaelpbdaa
open Go.ChangeShapes Go.WideShapes Go.ChangeAt Go.RowKit
set_option linter.unusedVariables false
attribute [local go_sem ↓] execOp_call_val
attribute [local go_sem] callVal_func setCell_drewN alloc_drewN

def PushP (es0 : List Ed) (src : List Bool) (place p g : Nat) (v : Value) (w : World) (e : Ending) (w' : World) : Prop :=
  w.grownBy w' v.ownBlock ∧ e = .returned (.bool (pushR src src.length place (1 + es0.length) es0).2) ∧ FdW w' p g (pushR src src.length place (1 + es0.length) es0).1 place v src ∧
  ∃ j, Fl es0 src src.length place (pushR src src.length place (1 + es0.length) es0).1 j ∧ j ≤ 1 + es0.length ∧ ((pushR src src.length place (1 + es0.length) es0).2 = false → j = 1 + es0.length) ∧ ((pushR src src.length place (1 + es0.length) es0).2 = true → j ≤ es0.length ∧ (bfsR goR (pushR src src.length place (1 + es0.length) es0).1 src src.length place).2 < 0)
theorem pushR_zero {src : List Bool} {n place : Nat} {es : List Ed} : pushR src n place 0 es = (es, false) := rfl
theorem int_at {w : World} {g : Nat} {t : TypeId} {xs : List Int} (h : Blk w g t (ints xs).toArray) {i : Nat} (hi : i < xs.length) : w.cell? ⟨g, i, none⟩ = some (.int .i64 (xs.getD i 0)) := by
  rw [h.cell, List.getElem?_toArray]
  unfold ints
  rw [List.getElem?_map, List.getD_eq_getElem?_getD, List.getElem?_eq_getElem hi]; rfl
set_option maxRecDepth 100000 in
set_option maxHeartbeats 8000000 in
theorem push_any (p g : Nat) (es0 : List Ed) (place : Nat) (v : Value) (src : List Bool) (w : World) (hF : FdW w p g es0 place v src)
    (ok : ∀ e ∈ es0, EdOk src.length e) (hz : ∀ e ∈ es0, e.fl = 0) (hp : place < src.length) (hn : src.length ≤ 100) (he : es0.length ≤ 100) :
    Calls Try.prog 79 #[.pointer (some ⟨p, 0, none⟩)] w (PushP es0 src place p g v w) := by
  have HP : Hid (∀ e w', PushP es0 src place p g v w e w' = (w.grownBy w' v.ownBlock ∧ e = .returned (.bool (pushR src src.length place (1 + es0.length) es0).2) ∧ FdW w' p g (pushR src src.length place (1 + es0.length) es0).1 place v src ∧
    ∃ j, Fl es0 src src.length place (pushR src src.length place (1 + es0.length) es0).1 j ∧ j ≤ 1 + es0.length ∧ ((pushR src src.length place (1 + es0.length) es0).2 = false → j = 1 + es0.length) ∧ ((pushR src src.length place (1 + es0.length) es0).2 = true → j ≤ es0.length ∧ (bfsR goR (pushR src src.length place (1 + es0.length) es0).1 src src.length place).2 < 0))) := Lib.hid fun _ _ => rfl
  have HF := Lib.hid hF
  have HOK := Lib.hid ok
  have HZ := Lib.hid hz
  obtain ⟨A, c, hv, hI⟩ := hF.is
  subst hv
  have f0 := hI.blk.cell 0
  have hlt := hI.blk.lt
  clear hF ok hz hI
  go_enter Try.func79, Try.ntmps79
  go_wp2_with fail
  go_loopw [12] (fun i wr => ∃ (t : Nat) (es : List Ed), t ≤ 1 + es0.length ∧ i = .int .i64 t ∧ w.grownBy wr (Value.slice A es0.length c).ownBlock ∧ FdW wr p g es place (.slice A es0.length c) src ∧ Fl es0 src src.length place es t ∧ pushR src src.length place (1 + es0.length - t) es = pushR src src.length place (1 + es0.length) es0) (fun i _ => 1 + es0.length - (intOf i).toNat)
  case atStart => exact ⟨0, es0, by omega, rfl, World.grownBy.refl _ _, HF.out, Fl.zero HZ.out, rfl⟩
  case round =>
    clear HF f0
    obtain ⟨t, es, ht, rfl, hg, hF, hFl, hfun⟩ := hrel
    have HG := Lib.hid hg
    have HF := Lib.hid hF
    have HFL := Lib.hid hFl
    have HFUN := Lib.hid hfun
    have hel : es.length = es0.length := hFl.same.1
    clear hg hF hFl hfun
    by_cases hlt2 : t < 1 + es0.length
    · obtain ⟨A', c', hv, hI⟩ := HF.out.is
      have hv' := Value.slice.inj hv
      obtain ⟨rfl, -, rfl⟩ := hv'
      have HI := Lib.hid hI
      have HEL := Lib.hid hel
      clear hI hv hel
      go_wp2_with fail
      refine (search_any p A c es place (some ⟨g, 0, none⟩) src.length src wr HI.out (HFL.out.same.ok HOK.out) hp (by omega) (by have := HEL.out; omega) (fun e he => by have := HFL.out.lim e he; omega)).mono ?_
      have HFD := Lib.hid (bfsR_found (src := src) (HFL.out.same.ok HOK.out) hp (go := goR))
      rintro e w2 ⟨k2, gq, he2, hgq, hbq⟩
      generalize hR : bfsR goR es src src.length place = R at *
      obtain ⟨by_, at_⟩ := R
      dsimp only at he2 hbq
      subst he2
      have HRR := Lib.hid hR
      have HB2 := Lib.hid k2
      have HBQ := Lib.hid hbq
      have HF2 := Lib.hid (HF.out.up k2)
      clear k2 hbq hR
      dsimp only
      by_cases hneg : at_ < 0
      · have hend : pushR src src.length place (1 + es0.length) es0 = (es, true) := by
          rw [← HFUN.out]
          exact pushR_end (by omega) (by rw [HRR.out]; exact hneg)
        have HEND := Lib.hid hend
        clear hend
        go_wp2_with fail
        go_ret
        rw [HP.out, HEND.out]
        refine ⟨grown_trans HG.out (only_of_below HB2.out _), rfl, HF2.out, t, HFL.out, ht, fun h => absurd h (by simp), fun _ => ⟨by omega, ?_⟩⟩
        show (bfsR goR es src src.length place).2 < 0
        rw [HRR.out]; exact hneg
      · obtain ⟨vis, d, HBI, hat⟩ := HFD.out.ex
        obtain ⟨u, hu, hvu, hsu⟩ : ∃ u : Nat, at_ = (u : Int) ∧ vis[d]? = some u ∧ src.getD u false = true := by
          rcases hat with h | h
          · exact absurd h.1 (by omega)
          · exact h
        subst hu
        have HBI := Lib.hid HBI
        have HVU := Lib.hid hvu
        have HSU := Lib.hid hsu
        have hul : u < src.length := HBI.out.lt u (List.mem_of_getElem? hvu)
        have hby := HBI.out.len
        have HFI0 := Lib.hid (FI.start (go := goR) (s := 1) (es0 := es) (n := src.length) (place := place) (by_ := by_) hvu)
        have hdv : d < src.length := by have := HBI.out.len_le; have := (List.getElem?_eq_some_iff.1 hvu).1; omega
        have HBK : Hid (back 1 by_ place d es u [] = back 1 by_ place src.length es u []) := Lib.hid (back_fuel HBI.out (HFL.out.same.ok HOK.out) (by decide) d d (Nat.le_refl _) u es [] HFI0.out d src.length (Nat.le_refl _) (by omega))
        clear hat hneg hvu hsu
        have hneg : ¬ ((u : Int) < 0) := by omega
        go_wp2_with fail
        go_loopg [4] d (fun m v4 wr => ∃ (a : Nat) (es2 : List Ed) (out : List ByteArray), FI goR 1 es src.length place by_ vis u m a es2 out ∧ v4 = .int .i64 a ∧ w2.grownBy wr (Value.slice A es0.length c).ownBlock ∧ FdW wr p g es2 place (.slice A es0.length c) src ∧ Blk wr gq 3 (ints by_).toArray ∧ back 1 by_ place m es2 a out = back 1 by_ place src.length es u [])
        case atStart => exact ⟨u, es, [], HFI0.out, rfl, World.grownBy.refl _ _, HF2.out, HBQ.out, HBK.out⟩
        case round =>
          have HF0 := Lib.hid HF.out
          clear HFI0 HF2 HBQ HBK HI HF
          obtain ⟨a, es2, out, hFI, rfl, hg2, hF2, hbq, hbk⟩ := hrel
          have HFI := Lib.hid hFI
          have HG2 := Lib.hid hg2
          have HF2 := Lib.hid hF2
          have HBQ := Lib.hid hbq
          have HBK := Lib.hid hbk
          have f1 := hF2.qf.cell 1
          have f0 := hF2.qf.cell 0
          have hplt := hF2.qf.lt
          have hal : a < src.length := HBI.out.lt a (List.mem_of_getElem? hFI.pos)
          have hel2 : es2.length = es0.length := hFI.len.trans HEL.out
          clear hg2 hF2 hbq hbk
          by_cases hpl : a = place
          · have hne : ((a : Int) != (place : Int)) = false := by simp; omega
            subst hpl
            clear hel2
            have hpush : pushR src src.length a (1 + es0.length - (t + 1)) es2 = pushR src src.length a (1 + es0.length) es0 := by
              rw [← HFUN.out, pushR_on (src := src) (n := src.length) (place := a) (m := 1 + es0.length - t) (es := es) (by omega) (by rw [HRR.out]; show ¬ ((u : Int) < 0); omega), HRR.out]
              have hb := HBK.out
              rw [back_place] at hb
              rw [show (((by_, (u : Int)) : List Int × Int).2).toNat = u from Int.toNat_natCast u, ← hb]
              congr 1
            have HPU := Lib.hid hpush
            have HFL2 := Lib.hid (HFL.out.push HOK.out HFI.out hul HSU.out)
            have HGG := Lib.hid (grown_trans (grown_trans HG.out (only_of_below HB2.out _)) HG2.out)
            clear hpush hFI
            go_wp2_with fail
            go_roundw
            case rel => exact ⟨t + 1, es2, by omega, by go_num, HGG.out, HF2.out, HFL2.out, HPU.out⟩
            case measure => simp [intOf]; omega
          · obtain ⟨k, e, j, q1, q2, q3, q4, q5, q6⟩ := hFI.step HBI.out (HFL.out.same.ok HOK.out) (by decide) hpl
            have hne : ((a : Int) != (place : Int)) = true := by simp; omega
            have hkl : k < es0.length := by have := (List.getElem?_eq_some_iff.1 q2).1; omega
            have hcb := int_at HBQ.out (i := a) (by omega)
            rw [q1] at hcb
            have Q1 := Lib.hid q1
            have Q2 := Lib.hid q2
            have Q6 := Lib.hid q6
            have HEL2 := Lib.hid hel2
            have hlim : -1000 ≤ e.fl ∧ e.fl ≤ 1000 := by have := HFL.out.lim e (List.mem_of_getElem? q3); omega
            obtain ⟨A2, c2, hv, hI⟩ := HF2.out.is
            have hv' := Value.slice.inj hv
            obtain ⟨rfl, -, rfl⟩ := hv'
            obtain ⟨eb, eo, rfl, heb⟩ := hI.eds.form (by omega)
            obtain ⟨e0, e1, e2, e3, e4⟩ := hI.eds.at_ q2
            have heo : eo = 0 := by
              rcases HF2.out.own.2 with h | ⟨g', cap, cur, h1, _⟩
              · cases h.1
              · have := Value.slice.inj h1
                have h2 := this.1
                injection h2 with h2
                injection h2
            subst heo
            simp only [Nat.zero_add] at e0 e1 e2 e3 e4
            have hfz : ∀ o, wr.frozen? ⟨eb, o, none⟩ = false := fun o => by have h := HF2.out.own; rw [HEL2.out] at h; exact h.frozenAt o
            have hf4 := hfz (k * 5 + 4)
            have hkI : (k : Int) < (es0.length : Int) := by omega
            have haI : (a : Int) < (src.length : Int) := by omega
            clear hv hI hfz q1 q2 q3 q6 hel2 hFI
            go_wp2_with fail
            go_quiet (fail)
            have HFQ := Lib.hid (HF2.out.up (below_drewN (Below.refl _ _) nq))
            have HGQ := Lib.hid (only_drewN HG2.out nq)
            have HBQQ := Lib.hid (HBQ.out.drewN nq)
            have e0 : (wr.drewN nq).cell? ⟨eb, k * 5, none⟩ = _ := e0
            have e1 : (wr.drewN nq).cell? ⟨eb, k * 5 + 1, none⟩ = _ := e1
            have e4 : (wr.drewN nq).cell? ⟨eb, k * 5 + 4, none⟩ = _ := e4
            have hf4 : (wr.drewN nq).frozen? ⟨eb, k * 5 + 4, none⟩ = false := hf4
            generalize wr.drewN nq = W at *
            by_cases hb : e.b = a
            · have hbI : ((e.b : Int) == (a : Int)) = true := by simp; omega
              have h3 := HFQ.out
              rw [← HEL2.out] at h3
              have h4 := h3.put Q2.out 1
              rw [HEL2.out] at h4
              have HF3 := Lib.hid h4.1
              have HG3 : Hid (w2.grownBy (W.setCell ⟨eb, k * 5 + 4, none⟩ (.int .i64 (e.fl + 1))) (Value.slice (some ⟨eb, 0, none⟩) es0.length c).ownBlock) := Lib.hid (grown_trans HGQ.out h4.2)
              have hge : gq ≠ eb := fun e => by have := (HF2.out.own.lt eb rfl).2; have := HF0.out.own.lt eb rfl; omega
              have HBQ3 := Lib.hid (HBQQ.out.far (p := ⟨eb, k * 5 + 4, none⟩) hge (.int .i64 (e.fl + 1)))
              clear h3 h4
              have hfl : e.fl + 1 = e.fl + 1 := by omega
              rw [hfl] at HF3 HG3 HBQ3
              have eo : (W.setCell ⟨eb, k * 5 + 4, none⟩ (.int .i64 (e.fl + 1))).cell? ⟨eb, k * 5, none⟩ = some (.int .i64 e.a) := by
                rw [World.cell?_setCell_other _ _ _ _ (fun h => by injection h; omega)]; exact e0
              clear hfl
              go_wp2_with fail
              go_roundg j
              case rel =>
                rcases Q6.out with ⟨h1, h2⟩ | ⟨h1, h2⟩
                · refine ⟨e.a, es2.set k (e.add 1), out ++ [e.name], h2, rfl, HG3.out, HF3.out, HBQ3.out, ?_⟩
                  obtain ⟨m', rfl⟩ : ∃ m', gk = m' + 1 := ⟨gk - 1, by omega⟩
                  rw [← HBK.out, back_b hpl Q1.out Q2.out h1]
                  exact back_fuel HBI.out (HFL.out.same.ok HOK.out) (by decide) j j (Nat.le_refl _) _ _ _ h2 _ _ (Nat.le_refl _) (by omega)
                · exact absurd hb h1
              case measure => omega
            · have hbI : ((e.b : Int) == (a : Int)) = false := by simp; omega
              have h3 := HFQ.out
              rw [← HEL2.out] at h3
              have h4 := h3.put Q2.out (-1)
              rw [HEL2.out] at h4
              have HF3 := Lib.hid h4.1
              have HG3 : Hid (w2.grownBy (W.setCell ⟨eb, k * 5 + 4, none⟩ (.int .i64 (e.fl + (-1)))) (Value.slice (some ⟨eb, 0, none⟩) es0.length c).ownBlock) := Lib.hid (grown_trans HGQ.out h4.2)
              have hge : gq ≠ eb := fun e => by have := (HF2.out.own.lt eb rfl).2; have := HF0.out.own.lt eb rfl; omega
              have HBQ3 := Lib.hid (HBQQ.out.far (p := ⟨eb, k * 5 + 4, none⟩) hge (.int .i64 (e.fl + (-1))))
              clear h3 h4
              have hfl : e.fl + (-1) = e.fl - 1 := by omega
              rw [hfl] at HF3 HG3 HBQ3
              have eo : (W.setCell ⟨eb, k * 5 + 4, none⟩ (.int .i64 (e.fl - 1))).cell? ⟨eb, k * 5 + 1, none⟩ = some (.int .i64 e.b) := by
                rw [World.cell?_setCell_other _ _ _ _ (fun h => by injection h; omega)]; exact e1
              clear hfl
              go_wp2_with fail
              go_roundg j
              case rel =>
                rcases Q6.out with ⟨h1, h2⟩ | ⟨h1, h2⟩
                · exact absurd h1 hb
                · refine ⟨e.b, es2.set k (e.add (-1)), out ++ [e.name], h2, rfl, HG3.out, HF3.out, HBQ3.out, ?_⟩
                  obtain ⟨m', rfl⟩ : ∃ m', gk = m' + 1 := ⟨gk - 1, by omega⟩
                  rw [← HBK.out, back_a hpl Q1.out Q2.out h1]
                  exact back_fuel HBI.out (HFL.out.same.ok HOK.out) (by decide) j j (Nat.le_refl _) _ _ _ h2 _ _ (Nat.le_refl _) (by omega)
              case measure => omega
    · have htt : t = 1 + es0.length := by omega
      subst htt
      have hend : pushR src src.length place (1 + es0.length) es0 = (es, false) := by
        rw [← HFUN.out, Nat.sub_self]; rfl
      have HEND := Lib.hid hend
      clear hend hel
      go_wp2_with fail
      go_ret
      rw [HP.out, HEND.out]
      exact ⟨HG.out, rfl, HF.out, _, HFL.out, Nat.le_refl _, fun _ => rfl, fun h => absurd h (by simp)⟩
end Go.Proofs.Ythedpegaelpbdaa
