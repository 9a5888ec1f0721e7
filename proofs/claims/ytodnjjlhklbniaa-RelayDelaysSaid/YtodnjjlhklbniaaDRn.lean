/- relay.Run. -/
import Derived.Test.YtodnjjlhklbniaaDO
namespace Go.Proofs.Ytodnjjlhklbniaa
open Go.ChangeShapes Go.WideShapes Go.ChangeAt Go.RowKit
set_option linter.unusedVariables false
set_option linter.unusedSimpArgs false
attribute [local go_sem ↓] execOp_call_val
attribute [local go_sem] callVal_func setCell_drewN alloc_drewN sEq_walk


theorem info_strl : (Try.prog.info? 34).map (fun i => (i.zero, i.size, i.bytes)) = some (some (.slice none 0 0), 1, 24) := by kernel_rfl
theorem bigF_take {fs : List (List ByteArray)} (h : bigF fs = false) : ∀ l ∈ fs, l.length ≤ 256 := fun l hl => by
  unfold bigF at h
  rw [List.any_eq_false] at h
  have := h l hl
  simp at this
  exact this
theorem runR_cons (p : List Rl) (ms : Int) (ord : List Nat) (fl : List ByteArray) (r : List (List ByteArray)) (vals : List Bool) (k : Nat → Nat → Bool × Int) : runR p ms ord (fl :: r) vals k = (stepR ⟨p, vals, fl, [], ms⟩ ord k).out :: runR p ms ord r (stepR ⟨p, vals, fl, [], ms⟩ ord k).vals (stepR ⟨p, vals, fl, [], ms⟩ ord k).kept := rfl
/-- a younger row grows -/
theorem RelW.above {y : Rel} {w w' : World} {vals : List Bool} {kept : Nat → Nat → Bool × Int} (h : RelW y w vals kept) (ok : RelOk y) {v : Value} {B : Nat} (hg : w.grownBy w' v.ownBlock) (hn : ∀ g, B ≤ g → g ≠ y.r ∧ g ≠ y.gv ∧ g ≠ y.m ∧ y.lo ≤ g) (hv : ∀ g, v.ownBlock = some g → B ≤ g) : RelW y w' vals kept := by
  have hF : Fr (fun k => v.ownBlock = some k) w w' := ⟨hg.os, hg.tape, hg.output, hg.size, fun k hk hn => hg.block k hk fun e => hn e.symm⟩
  have hlow : ∀ k, k < y.lo → v.ownBlock = some k → ∃ es c, w.heap[k]? = some (.map es c) := fun k hk hx => by have := (hn k (hv k hx)).2.2.2; omega
  exact ⟨hF.blk h.bR (fun e => (hn _ (hv _ e)).1 rfl), h.rules.fr hF hlow, RdI.fr h.order hF hlow, hF.blk h.vb (fun e => (hn _ (hv _ e)).2.1 rfl), h.vl, h.ki.at_ (hF.block _ h.ki.lt (fun e => (hn _ (hv _ e)).2.2.1 rfl)), h.ko⟩
set_option maxRecDepth 100000 in
set_option maxHeartbeats 8000000 in
theorem run_any (A : Option Addr) (n c : Nat) (hs : List Rh) (ms : Int) (B : Option Addr) (m d : Nat) (ls : List Sl) (w : World) (hR : RdRh w w.heap.size A n hs) (hn : n ≤ c) (hc : c ≤ maxLen) (hnil : A = none → c = 0) (hf : ∀ z ∈ hs, z.r.Fit)
    (hL : RdSl w w.heap.size B m ls) (hm : m ≤ 9223372036854775807) :
    Calls Try.prog 10 #[.slice A n c, .int .i64 ms, .slice B m d] w (RunP (rls hs) ms (sss ls) w) := by
  have HP : Hid (∀ e w', RunP (rls hs) ms (sss ls) w e w' = (Below w.heap.size w w' ∧ ((runE (rls hs) ms (sss ls) ≠ 0 ∧ e = .returned (.tuple #[.slice none 0 0, .int .i64 (runE (rls hs) ms (sss ls))])) ∨ (runE (rls hs) ms (sss ls) = 0 ∧ ∃ v us, e = .returned (.tuple #[v, .int .i64 0]) ∧ OutS w.heap.size w' v us (runO (rls hs) ms (sss ls)))))) := Lib.hid fun _ _ => rfl
  obtain ⟨i0, hi0, hz0, hz1, hz2⟩ := info_parts info_strl
  have HI0 := Lib.hid hi0
  have HI1 := Lib.hid hz0
  have HI2 := Lib.hid hz1
  have HI3 := Lib.hid hz2
  have HL := Lib.hid hL
  have HSL : Hid ((sss ls).length = m) := Lib.hid (by unfold sss; rw [List.length_map]; exact hL.len)
  clear hi0 hz0 hz1 hz2 hL
  go_enter Try.func10, Try.ntmps10
  go_wp2_with fail
  refine (new_any A n c hs w hR hn hc hnil hf).mono ?_
  rintro e w1 ⟨hb, hcs⟩
  have HB1 := Lib.hid hb
  clear hb hR hf hc hnil
  rcases hcs with ⟨hne, rfl⟩ | ⟨h0, y, o, ho, hyp, hyo, hok, hlo, rfl, hw⟩
  · have HE : Hid (runE (rls hs) ms (sss ls) = ckR (rls hs)) := Lib.hid (by unfold runE; rw [if_pos hne])
    generalize ckR (rls hs) = ck at *
    have hneb : (ck != 0) = true := by simpa using hne
    have HNE := Lib.hid hne
    clear hne
    go_wp2_with fail
    go_ret2
    rw [HP.out]
    exact ⟨HB1.out, .inl ⟨by rw [HE.out]; exact HNE.out, by rw [HE.out]; rfl⟩⟩
  · have HOK := Lib.hid hok
    have HW := Lib.hid hw
    have HYP := Lib.hid hyp
    have HYO := Lib.hid hyo
    have HLO := Lib.hid hlo
    have HO := Lib.hid ho
    have HE0 : Hid (runE (rls hs) ms (sss ls) = if ms < 1 ∨ 100000 < ms then 4 else if 2000 < m then 2 else if bigF (sss ls) then 2 else 0) := Lib.hid (by unfold runE; rw [if_neg (by simpa using h0), HSL.out])
    clear h0 ho hyp hyo hok hlo hw
    by_cases h1 : ms < 1
    · have HE : Hid (runE (rls hs) ms (sss ls) = 4) := Lib.hid (by rw [HE0.out, if_pos (.inl h1)])
      go_wp2_with fail
      go_ret2
      rw [HP.out]
      exact ⟨HB1.out, .inl ⟨by rw [HE.out]; omega, by rw [HE.out]; rfl⟩⟩
    by_cases h2 : 100000 < ms
    · have HE : Hid (runE (rls hs) ms (sss ls) = 4) := Lib.hid (by rw [HE0.out, if_pos (.inr h2)])
      go_wp2_with fail
      go_ret2
      rw [HP.out]
      exact ⟨HB1.out, .inl ⟨by rw [HE.out]; omega, by rw [HE.out]; rfl⟩⟩
    by_cases h3 : 2000 < m
    · have HE : Hid (runE (rls hs) ms (sss ls) = 2) := Lib.hid (by rw [HE0.out, if_neg (by omega), if_pos h3])
      go_wp2_with fail
      go_ret2
      rw [HP.out]
      exact ⟨HB1.out, .inl ⟨by rw [HE.out]; omega, by rw [HE.out]; rfl⟩⟩
    have HE : Hid (runE (rls hs) ms (sss ls) = if bigF (sss ls) then 2 else 0) := Lib.hid (by rw [HE0.out, if_neg (by omega), if_neg h3])
    have hbs : w.heap.size ≤ w1.heap.size := HB1.out.size
    have HRN : Hid (runO (rls hs) ms (sss ls) = runR (rls hs) ms o (sss ls) (List.replicate (rls hs).length false) (fun _ _ => (false, 0))) := Lib.hid (by unfold runO; rw [HO.out])
    clear HE0
    go_wp2_with fail
    obtain ⟨wo, hwo⟩ : ∃ wo, wo = w1 := ⟨_, rfl⟩
    subst hwo
    have HNX : Hid (∀ k, wo.heap.size ≤ k → ¬ RelX y k) := Lib.hid (fun k hk => RelX.lt HW.out hk)
    have HNY : Hid (∀ g, wo.heap.size ≤ g → g ≠ y.r ∧ g ≠ y.gv ∧ g ≠ y.m ∧ y.lo ≤ g) := Lib.hid (fun g hg => by
      have h1 := HW.out.bR.lt
      have h2 := HW.out.vb.lt
      have h3 := HW.out.ki.lt
      have h4 := HOK.out.r
      exact ⟨by omega, by omega, by omega, by omega⟩)
    go_loopw [10, 37] (fun v i wr => ∃ (k : Nat) (vals : List Bool) (kept : Nat → Nat → Bool × Int) (us : List Value) (os : List (List ByteArray)), k ≤ m ∧ i = .int .i64 k ∧ os.length = k ∧ Below w.heap.size w wr ∧ wo.heap.size ≤ wr.heap.size ∧ RelW y wr vals kept ∧ OutS wo.heap.size wr v us os ∧ runO (rls hs) ms (sss ls) = os ++ runR (rls hs) ms o ((sss ls).drop k) vals kept ∧ (∀ l ∈ (sss ls).take k, l.length ≤ 256)) (fun _ i _ => m - (intOf i).toNat)
    case atStart => exact ⟨0, _, _, [], [], by omega, rfl, rfl, HB1.out, Nat.le_refl _, HW.out, OutS.nil _ _, HRN.out, by simp⟩
    case round =>
      clear HW HRN HB1
      obtain ⟨k, vals, kept, us, os, hk, rfl, hol, hb, hsz, hw, hout, hrn, hsm⟩ := hrel
      have HB := Lib.hid hb
      have HSZ := Lib.hid hsz
      have HW := Lib.hid hw
      have HOUT := Lib.hid hout
      have HRN := Lib.hid hrn
      have HSM := Lib.hid hsm
      have HOL := Lib.hid hol
      clear hb hsz hw hout hrn hsm hol
      by_cases hlt : k < m
      · obtain ⟨z, hz⟩ : ∃ z, ls[k]? = some z := ⟨_, List.getElem?_eq_getElem (by rw [HL.out.len]; exact hlt)⟩
        have hrd := HL.out.up HB.out
        have hzs : (sss ls)[k]? = some z.ss := by unfold sss; rw [List.getElem?_map, hz]; rfl
        obtain ⟨b, off, hA, hblt, -⟩ := hrd.rd.2 (by omega)
        rw [hA] at hrd
        have c0 := hrd.at_ hz
        have HZ := Lib.hid (hrd.zs z (List.mem_of_getElem? hz))
        have HZL : Hid (z.ss.length = z.n) := Lib.hid HZ.out.1.1
        have HDC := Lib.hid (drop_cons hzs)
        have HMZ := Lib.hid (List.mem_of_getElem? hzs)
        have HTK : Hid ((sss ls).take (k + 1) = (sss ls).take k ++ [z.ss]) := Lib.hid (by rw [List.take_add_one, hzs]; rfl)
        rw [hA]
        clear hz hrd hzs hA
        by_cases hbig : 256 < z.n
        · have HE2 : Hid (runE (rls hs) ms (sss ls) = 2) := Lib.hid (by
            rw [HE.out, if_pos]
            unfold bigF
            rw [List.any_eq_true]
            exact ⟨z.ss, HMZ.out, by rw [HZL.out]; exact decide_eq_true hbig⟩)
          go_wp2_with fail
          refine (step_large (.pointer (some ⟨y.r, 0, none⟩)) ms z.A z.n z.c none 0 0 wr (by omega) hbig).mono ?_
          rintro e w2 ⟨rfl, rfl⟩
          go_wp2_with fail
          go_ret2
          rw [HP.out]
          exact ⟨HB.out, .inl ⟨by rw [HE2.out]; omega, by rw [HE2.out]; rfl⟩⟩
        · go_wp2_with fail
          refine (step_any y HOK.out vals kept ms z.A z.n z.c z.ss none 0 0 [] wr HW.out HZ.out.1 ⟨rfl, by simp, fun h => by omega⟩ (by omega) (by omega) (by omega)).mono ?_
          rintro e w2 ⟨u2, rfl, hw2, hf2, ho2⟩
          rw [HYP.out, HYO.out] at hw2 ho2
          obtain ⟨A2, d2, rfl, r2, hd2, hd2m, _⟩ := own_rd ho2
          have HW2 := Lib.hid hw2
          have HB2 : Hid (Below w.heap.size w w2) := Lib.hid (HB.out.trans (hf2.below HB.out.size (fun k hk => by
            rcases hk with hk | hk
            · have := HOK.out.gv; have := HLO.out; omega
            · have := HOK.out.m; have := HLO.out; omega)))
          have HOS := Lib.hid (HOUT.out.fr hf2 HNX.out)
          have HO2 := Lib.hid (own_mono ho2 HSZ.out)
          have HSP : Hid (∀ g, (Value.slice A2 (stepR ⟨rls hs, vals, z.ss, [], ms⟩ o kept).out.length d2).ownBlock = some g → u10.ownBlock ≠ some g) := Lib.hid (fun g hg hc => by
            have h1 := (ho2.lt g hg).1
            have h2 := (HOUT.out.out.lt g hc).2
            omega)
          have HSZ2 := Lib.hid (Nat.le_trans HSZ.out hf2.size)
          have hbase : wo.heap.size ≤ w2.heap.size := HSZ2.out
          have hul : us.length ≤ 2000 := by have := HOUT.out.len; have := HOL.out; omega
          clear hw2 hf2 ho2 r2 hd2 hd2m
          obtain ⟨sr, hsr⟩ : ∃ sr, sr = stepR ⟨rls hs, vals, z.ss, [], ms⟩ o kept := ⟨_, rfl⟩
          rw [← hsr] at HW2 HO2 HSP ⊢
          have HRN2 : Hid (runO (rls hs) ms (sss ls) = (os ++ [sr.out]) ++ runR (rls hs) ms o ((sss ls).drop (k + 1)) sr.vals sr.kept) := Lib.hid (by rw [HRN.out, HDC.out, runR_cons, ← hsr, List.append_assoc]; rfl)
          clear hsr HRN
          obtain ⟨q, hq⟩ : ∃ q, q = sr.out.length := ⟨_, rfl⟩
          rw [← hq] at HSP ⊢
          have HO3 : Hid (w2.ownsRow wo.heap.size 9 1 (.slice A2 q d2) sr.out.length (strsV sr.out)) := Lib.hid (by have := HO2.out; rw [← hq] at this ⊢; exact this)
          clear hq HO2
          go_wp2_with (at_builtin; refine wpList_app1a rfl (.tmp 51) (.tmp 53) _ rfl wo.heap.size 34 i0 _ 1 24 Try.underlying38 HI0.out HI1.out HI2.out HI3.out rfl (by omega) u10 us.length us rfl HOS.out.out rfl rfl ?k1 ?k2 ?k3 hbase ?_)
          case k1 => simp [Value.oneCell']
          case k2 => simp only [maxLen]; omega
          case k3 => omega
          intro v' w6 h1 h2 h3 h4
          have HOS6 := Lib.hid (HOS.out.app HO3.out HSP.out h1 h3 h4)
          have HB6 : Hid (Below w.heap.size w w6) := Lib.hid (HB2.out.trans (h2.mono hbs))
          have HW6 : Hid (RelW y w6 sr.vals sr.kept) := Lib.hid (HW2.out.above HOK.out h3 (fun g hg => HNY.out g hg) (fun g hg => (HOS.out.out.lt g hg).1))
          have HSZ6 := Lib.hid (Nat.le_trans HSZ2.out h3.size)
          have HSM6 : Hid (∀ l ∈ (sss ls).take (k + 1), l.length ≤ 256) := Lib.hid (fun l hl => by
            rw [HTK.out] at hl
            rcases List.mem_append.1 hl with hl | hl
            · exact HSM.out l hl
            · rw [List.mem_singleton.1 hl, HZL.out]; omega)
          clear h1 h2 h3 h4 hul hbase
          go_wp2_with fail
          go_roundw
          case rel => exact ⟨k + 1, _, _, _, os ++ [sr.out], hlt, by go_num, by rw [List.length_append, HOL.out]; rfl, HB6.out, HSZ6.out, HW6.out, HOS6.out, HRN2.out, HSM6.out⟩
          case measure => simp [intOf]; omega
      · have hkm : k = m := by omega
        have hd : (sss ls).drop k = [] := by rw [List.drop_eq_nil_iff, HSL.out]; omega
        have HRF : Hid (runO (rls hs) ms (sss ls) = os) := Lib.hid (by rw [HRN.out, hd]; simp [runR])
        have HE2 : Hid (runE (rls hs) ms (sss ls) = 0) := Lib.hid (by
          rw [HE.out, if_neg]
          unfold bigF
          rw [List.any_eq_true]
          rintro ⟨l, hl, h⟩
          have := HSM.out l (by rw [List.take_of_length_le (by rw [HSL.out]; omega)]; exact hl)
          simp at h; omega)
        clear hd
        go_wp2_with fail
        go_ret2
        rw [HP.out]
        refine ⟨HB.out, .inr ⟨HE2.out, _, us, rfl, ?_⟩⟩
        rw [HRF.out]
        exact ⟨own_mono HOUT.out.out hbs, HOUT.out.len, fun i u l h1 h2 => own_mono (HOUT.out.inn i u l h1 h2) hbs, HOUT.out.sep⟩
end Go.Proofs.Ytodnjjlhklbniaa
