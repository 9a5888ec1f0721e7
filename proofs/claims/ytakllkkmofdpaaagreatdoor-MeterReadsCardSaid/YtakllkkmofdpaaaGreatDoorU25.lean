import Derived.Test.YtakllkkmofdpaaaGreatDoorU22
import Derived.Test.YtakllkkmofdpaaaGreatDoorU23
import Derived.Test.YtakllkkmofdpaaaGreatDoorU24
set_option linter.unusedVariables false
set_option linter.unusedSimpArgs false
namespace Go.Proofs.YtakllkkmofdpaaaGreatDoor
section
open Go.ChangeShapes Go.WideShapes Go.ChangeAt Go.RowKit
attribute [local go_sem ↓] execOp_call_val
attribute [local go_sem] callVal_func setCell_drewN alloc_drewN sEq_walk
def unitL (n i : Nat) : List Rat := (List.replicate n 0).set i 1
def extR (M : List (List Rat)) : List (List Rat) := M.mapIdx fun i row => row ++ unitL M.length i
theorem extR_len (M : List (List Rat)) : (extR M).length = M.length := by unfold extR; rw [List.length_mapIdx]
theorem extR_at {M : List (List Rat)} {i : Nat} {row : List Rat} (h : M[i]? = some row) : (extR M)[i]? = some (row ++ unitL M.length i) := by
 unfold extR; rw [List.getElem?_mapIdx, h]; rfl
theorem extR_wid {M : List (List Rat)} (h : ∀ a ∈ M, a.length = M.length) : ∀ a ∈ extR M, a.length = M.length + M.length := fun a ha => by
 obtain ⟨i, hi⟩ := List.mem_iff_getElem?.1 ha
 obtain ⟨row, hr⟩ : ∃ row, M[i]? = some row := ⟨_, List.getElem?_eq_getElem (by have := (List.getElem?_eq_some_iff.1 hi).1; rwa [extR_len] at this)⟩
 rw [extR_at hr] at hi
 injection hi with hi
 rw [← hi, List.length_append, h row (List.mem_of_getElem? hr)]
 unfold unitL
 rw [List.length_set, List.length_replicate]
theorem ext_put {q : List Rat} {n k : Nat} (hq : q.length = n) : (q ++ List.replicate n (0 : Rat)).set (n + k) 1 = q ++ unitL n k := by
 unfold unitL
 rw [List.set_append_right _ _ (by omega), hq]
 congr 2
 omega
theorem unit_bd {n i : Nat} : ∀ x ∈ unitL n i, qsz x + 1 ≤ 3 := fun x hx => by
 have : x = 0 ∨ x = 1 := by
  unfold unitL at hx
  rcases List.mem_or_eq_of_mem_set hx with h | h
  ·exact .inl (List.mem_replicate.1 h).2
  ·exact .inr h
 rcases this with h | h <;> rw [h] <;> decide +kernel
theorem extR_bd {M : List (List Rat)} {b : Nat} (h : Bd b M) (hb : 3 ≤ b) : Bd b (extR M) := fun a ha x hx => by
 obtain ⟨i, hi⟩ := List.mem_iff_getElem?.1 ha
 obtain ⟨row, hr⟩ : ∃ row, M[i]? = some row := ⟨_, List.getElem?_eq_getElem (by have := (List.getElem?_eq_some_iff.1 hi).1; rwa [extR_len] at this)⟩
 rw [extR_at hr] at hi
 injection hi with hi
 rw [← hi] at hx
 rcases List.mem_append.1 hx with hx | hx
 ·exact h row (List.mem_of_getElem? hr) x hx
 ·exact Nat.le_trans (unit_bd x hx) hb
section
variable {w w' : World} {base g : Nat} {hs : List Mh} {L : List (List Rat)}
theorem OwnM.mat (o : OwnM w base g hs L) : MatS base g w w (.slice none 0 0) [] hs L := ⟨o, ownS_none _ _ _ _ _, Below.refl _ _⟩
end
structure CutM (w : World) (base g n k : Nat) (hs : List Hd) (L : List (List Rat)) : Prop where
 top : Blk w g 103 (hs.map Hd.val).toArray
 len : hs.length = L.length
 gb : base ≤ g
 row : ∀ (i : Nat) (h : Hd) (q : List Rat), hs[i]? = some h → L[i]? = some q → RdQ w w.heap.size h.A h.n (if i < k then q.drop n else q) ∧ h.n ≤ h.c ∧ h.c ≤ maxLen ∧ (0 < h.n → ∃ b off, h.A = some ⟨b, off, none⟩ ∧ b ≠ g)
section
variable {w w' : World} {base g n k : Nat} {hs : List Hd} {L : List (List Rat)}
theorem OwnM.cut {ms : List Mh} (o : OwnM w base g ms L) : CutM w base g n 0 (ms.map fun h => ⟨h.A, h.vs.length, h.c⟩) L := by
 refine ⟨?_, by rw [List.length_map, o.len], o.gb, fun i h q hh hq => ?_⟩
 ·rw [List.map_map]; exact o.top
 ·rw [List.getElem?_map] at hh
  obtain ⟨m, hm, rfl⟩ := Option.map_eq_some_iff.1 hh
  have r := o.row i m q hm hq
  refine ⟨?_, r.cap, r.cm, fun h0 => ?_⟩
  ·rw [if_neg (by omega)]
   have := r.rd
   rwa [← r.len] at this
  ·obtain ⟨h1, h2, h3, _⟩ := r.lies (by rw [← r.len]; exact h0)
   exact ⟨m.g, 0, h1, h3⟩
theorem CutM.up (o : CutM w base g n k hs L) (hb : Below w.heap.size w w') : CutM w' base g n k hs L :=
 ⟨o.top.below hb o.top.lt, o.len, o.gb, fun i h q hh hq => by
  obtain ⟨h1, h2, h3, h4⟩ := o.row i h q hh hq
  exact ⟨(h1.below hb (Nat.le_refl _)).more hb.size, h2, h3, h4⟩⟩
theorem CutM.get (o : CutM w base g n k hs L) {i : Nat} {q : List Rat} (hq : L[i]? = some q) : ∃ h : Hd, hs[i]? = some h ∧ w.cell? ⟨g, i, none⟩ = some (.slice h.A h.n h.c) := by
 obtain ⟨h, hh⟩ : ∃ h, hs[i]? = some h := ⟨_, List.getElem?_eq_getElem (by rw [o.len]; exact (List.getElem?_eq_some_iff.1 hq).1)⟩
 refine ⟨h, hh, ?_⟩
 rw [o.top.cell, List.getElem?_toArray, List.getElem?_map, hh]
 rfl
theorem RdQ.drop {w : World} {B m n b off : Nat} {q : List Rat} (h : RdQ w B (some ⟨b, off, none⟩) m q) (hn : n ≤ m) : RdQ w B (some ⟨b, off + n * 4, none⟩) (m - n) (q.drop n) := by
 obtain ⟨vs, h1, h2, h3, h4⟩ := h
 refine ⟨vs.drop n, by rw [List.length_drop, h1], by rw [List.length_drop, h2], ⟨by rw [rvs_len, List.length_drop, h1], fun h0 => ?_⟩, fun i x v hx hv => ?_⟩
 ·obtain ⟨b', off', e, hlt, hc⟩ := h3.2 (by omega)
  injection e with e
  injection e with e1 e2
  subst e1; subst e2
  refine ⟨b, off + n * 4, rfl, hlt, fun j u hu => ?_⟩
  have hd : rvs vs = rvs (vs.take n) ++ rvs (vs.drop n) := by
   unfold rvs
   rw [← List.flatMap_append, List.take_append_drop]
  have hu2 : (rvs vs)[n * 4 + j]? = some u := by
   rw [hd, List.getElem?_append_right (by rw [rvs_len, List.length_take, h1]; omega), rvs_len, List.length_take, h1, show n * 4 + j - min n m * 4 = j from by omega]
   exact hu
  have := hc _ u hu2
  rwa [← Nat.add_assoc] at this
 ·rw [List.getElem?_drop] at hx hv
  exact h4 _ _ _ hx hv
theorem CutM.step (o : CutM w base g n k hs L) {h h2 : Hd} {q : List Rat} (hh : hs[k]? = some h) (hq : L[k]? = some q) (hr : RdQ w w.heap.size h2.A h2.n (q.drop n)) (h1 : h2.n ≤ h2.c) (h3 : h2.c ≤ maxLen) (h4 : 0 < h2.n → ∃ b off, h2.A = some ⟨b, off, none⟩ ∧ b ≠ g) : CutM (w.setCell ⟨g, k, none⟩ (.slice h2.A h2.n h2.c)) base g n (k + 1) (hs.set k h2) L := by
 have hkl := (List.getElem?_eq_some_iff.1 hh).1
 have hrd : ∀ {A : Option Addr} {m : Nat} {p : List Rat}, RdQ w w.heap.size A m p → (0 < m → ∃ b off, A = some ⟨b, off, none⟩ ∧ b ≠ g) → RdQ (w.setCell ⟨g, k, none⟩ (.slice h2.A h2.n h2.c)) (w.setCell ⟨g, k, none⟩ (.slice h2.A h2.n h2.c)).heap.size A m p := fun {A m p} H hA => by
  obtain ⟨vs, a1, a2, a3, a4⟩ := H
  refine ⟨vs, a1, a2, ⟨a3.1, fun hm => ?_⟩, fun i x v hx hv => ?_⟩
  ·obtain ⟨b, off, e, hlt, hc⟩ := a3.2 hm
   obtain ⟨b', off', e', hne⟩ := hA hm
   rw [e] at e'
   injection e' with e'
   injection e' with e1 e2
   subst e1
   refine ⟨b, off, e, by simpa [World.setCell] using hlt, fun j u hu => ?_⟩
   rw [World.cell?_setCell_other _ _ _ _ (fun e => hne (by injection e with e; exact e.symm))]
   exact hc j u hu
  ·have h0 : RtIs w w.heap.size x v.b1 v.A v.n v.c v.b2 v.A2 v.m v.d := a4 i x v hx hv
   refine RtIs.keep h0 (v := h.val) ?_ (fun a b e => by simp [Hd.val] at e) _
   rw [o.top.cell, List.getElem?_toArray, List.getElem?_map, hh]; rfl
 refine ⟨?_, by rw [List.length_set, o.len], o.gb, fun i z p hz hp => ?_⟩
 ·have := o.top.set_ k (.slice h2.A h2.n h2.c)
  rw [List.map_set]
  simpa [Hd.val] using this
 ·rw [List.getElem?_set] at hz
  by_cases hik : k = i
  ·subst hik
   rw [if_pos rfl, if_pos hkl] at hz
   injection hz with hz
   subst hz
   rw [hq] at hp
   injection hp with hp
   subst hp
   refine ⟨?_, h1, h3, h4⟩
   rw [if_pos (Nat.lt_succ_self _)]
   exact hrd hr h4
  ·rw [if_neg hik] at hz
   obtain ⟨a1, a2, a3, a4⟩ := o.row i z p hz hp
   refine ⟨?_, a2, a3, a4⟩
   have e : (if i < k + 1 then p.drop n else p) = if i < k then p.drop n else p := by
    by_cases hlt : i < k
    ·rw [if_pos hlt, if_pos (by omega)]
    ·rw [if_neg hlt, if_neg (by omega)]
   rw [e]
   exact hrd a1 a4
theorem CutM.rd (o : CutM w base g n L.length hs L) : RdM w w.heap.size (some ⟨g, 0, none⟩) L.length (L.map (List.drop n)) := by
 refine ⟨hs, o.len, List.length_map _, ⟨by simp [o.len], fun _ => ⟨g, 0, rfl, o.top.lt, fun j u hu => ?_⟩⟩, fun i h q hh hq => ?_⟩
 ·rw [Nat.zero_add, o.top.cell j, List.getElem?_toArray]
  exact hu
 ·rw [List.getElem?_map] at hq
  obtain ⟨p, hp, rfl⟩ := Option.map_eq_some_iff.1 hq
  obtain ⟨a1, a2, a3, _⟩ := o.row i h p hh hp
  rw [if_pos (List.getElem?_eq_some_iff.1 hp).1] at a1
  exact ⟨a1, a2, a3⟩
end
def InvP (M : List (List Rat)) (w : World) (e : Ending) (w' : World) : Prop := Below w.heap.size w w' ∧ (((redR (extR M) M.length).2.length < M.length ∧ e = .returned (.tuple #[.slice none 0 0, .bool false])) ∨
 (¬ (redR (extR M) M.length).2.length < M.length ∧ ∃ g, e = .returned (.tuple #[.slice (some ⟨g, 0, none⟩) M.length M.length, .bool true]) ∧ w.heap.size ≤ g ∧ RdM w' w'.heap.size (some ⟨g, 0, none⟩) M.length ((redR (extR M) M.length).1.map (List.drop M.length))))
end
section
open Go.ChangeShapes Go.WideShapes Go.ChangeAt Go.RowKit
attribute [local go_sem ↓] execOp_call_val
attribute [local go_sem] callVal_func setCell_drewN alloc_drewN sEq_walk
theorem zeros_rd {w : World} {g n : Nat} {v : Rv} (hb : Blk w g 93 (rvs (List.replicate n v)).toArray) : Rd w w.heap.size 4 (some ⟨g, 0, none⟩) n (rvs (List.replicate n v)) :=
 ⟨by rw [rvs_len, List.length_replicate], fun _ => ⟨g, 0, rfl, hb.lt, fun j u hu => by rw [Nat.zero_add, hb.cell j]; simpa using hu⟩⟩
theorem rep_ok {w : World} {n : Nat} {v : Rv} {q : Rat} (h : RtV w w.heap.size q v) : RvOk w (List.replicate n v) (List.replicate n q) := fun i p x hp hx => by
 rw [List.getElem?_replicate] at hp hx
 split at hp
 ·rename_i hi
  rw [if_pos hi] at hx
  injection hp with hp; injection hx with hx
  subst hp; subst hx
  exact h
 ·cases hp
theorem RvOk.app {w : World} {vs us : List Rv} {ps qs : List Rat} (h : RvOk w vs ps) (h2 : RvOk w us qs) (hl : vs.length = ps.length) : RvOk w (vs ++ us) (ps ++ qs) := fun i q v hq hv => by
 by_cases hi : i < ps.length
 ·rw [List.getElem?_append_left hi] at hq
  rw [List.getElem?_append_left (by omega)] at hv
  exact h i q v hq hv
 ·rw [List.getElem?_append_right (by omega)] at hq
  rw [List.getElem?_append_right (by omega), hl] at hv
  exact h2 _ q v hq hv
theorem rvs_app (a b : List Rv) : rvs (a ++ b) = rvs a ++ rvs b := by unfold rvs; rw [List.flatMap_append]
set_option maxRecDepth 100000 in
set_option maxHeartbeats 4000000 in
theorem inverse_m (A : Option Addr) (n c b : Nat) (M : List (List Rat)) (w : World) (hR : RdM w w.heap.size A n M) (hn : n ≤ 1000) (hw : ∀ a ∈ M, a.length = n) (hbd : Bd b M) (hb3 : 3 ≤ b) (hsz : 4 ^ n * b ≤ 4000000000000) :
    Calls Tryz.prog 134 #[.slice A n c] w (InvP M w) := by
 have HR := Lib.hid hR
 have HL := Lib.hid hR.len
 have HWD := Lib.hid hw
 have HEW : Hid (∀ a ∈ extR M, a.length = n + n) := Lib.hid (by have h := hR.len; have := extR_wid (M := M) (by rw [h]; exact hw); rwa [h] at this)
 have HEB := Lib.hid (extR_bd hbd hb3)
 have HSZ := Lib.hid hsz
 obtain ⟨i0, hi0, hz0, hz1, hz2⟩ := rat_parts
 have HI0 := Lib.hid hi0
 have HI1 := Lib.hid hz0
 have HI2 := Lib.hid hz1
 have HI3 := Lib.hid hz2
 clear hR hw hi0 hz0 hz1 hz2 hbd hb3 hsz
 have hmk : ∀ w : World, (Instr.makeSlice 117 (.int .i64 (n : Int)) (.int .i64 (n : Int))).run Tryz.prog w = .ok (.slice (some ⟨w.heap.size, 0, none⟩) n n) (w.alloc (.cells (nilRows n) 103)) := fun w => make_rows n (by omega) w
 have HK := Lib.hid ((Below.refl w.heap.size w).alloc (Nat.le_refl _) (.cells (nilRows n) 103))
 have HG := Lib.hid (Blk.new w 103 (nilRows n))
 go_enter Tryz.func134, Tryz.ntmps134
 go_wp2_with fail
 clear hmk
 generalize w.alloc (.cells (nilRows n) 103) = W at *
 have HO := Lib.hid (ownM_made HG.out (Nat.le_refl _))
 generalize hg : w.heap.size = g at *
 have HGS := Lib.hid hg
 clear hg HG
 go_loopw [16] (fun v16 wr => ∃ (k : Nat) (hs : List Mh), k ≤ n ∧ v16 = .int .i64 k ∧ Below g w wr ∧ OwnM wr g g hs ((extR M).take k ++ List.replicate (n - k) [])) (fun v16 _ => n - (intOf v16).toNat)
 case atStart => exact ⟨0, _, by omega, rfl, HK.out, by rw [List.take_zero, List.nil_append, Nat.sub_zero]; exact HO.out⟩
 case round =>
  clear HK HO
  obtain ⟨k, hs, hk, rfl, hb, ho⟩ := hrel
  have HK := Lib.hid hb
  have HO := Lib.hid ho
  clear hb ho
  by_cases hlt : k < n
  ·obtain ⟨q, hq⟩ : ∃ q, M[k]? = some q := ⟨_, List.getElem?_eq_getElem (by have := HL.out; omega)⟩
   obtain ⟨b0, o, hA, hb⟩ := (HR.out.below HK.out (by have := HGS.out; omega)).form (by omega)
   subst hA
   obtain ⟨h, hc, hrq, hh1, hh2⟩ := (HR.out.below HK.out (by have := HGS.out; omega)).at_ hq
   have HGL : Hid (g < wr.heap.size) := Lib.hid HO.out.top.lt
   have HRQ := Lib.hid (hrq.more (B' := wr.heap.size) (by have := HGS.out; have := HGL.out; omega))
   have HQL : Hid (q.length = n) := Lib.hid (HWD.out q (List.mem_of_getElem? hq))
   have HXQ := Lib.hid (extR_at hq)
   rw [HL.out] at HXQ
   have HF : Hid (((extR M).take k ++ List.replicate (n - k) []).set k (q ++ unitL n k) = (extR M).take (k + 1) ++ List.replicate (n - (k + 1)) []) := Lib.hid (fill_set (by rw [extR_len, HL.out]) HXQ.out)
   have hkI : (k : Int) < (n : Int) := by omega
   have HN1 : Hid ((k : Int) + 1 = ((k + 1 : Nat) : Int)) := Lib.hid (by omega)
   have HN2 : Hid (n - (k + 1) < n - k) := Lib.hid (by omega)
   have hbl : b0 < wr.heap.size := by have := HK.out.size; have := HGS.out; omega
   obtain ⟨vs, hv1, hv2, hv3, hv4⟩ := rdQ_parts HRQ.out
   obtain ⟨hA0, hn0, hc0⟩ := h
   simp only at hc hv1 hv2 hv3 hv4 hh1 hh2
   have hn0n : hn0 = n := by have := HQL.out; omega
   subst hn0n
   have HV1 := Lib.hid hv1
   have HV3 := Lib.hid hv3
   have HV4 := Lib.hid hv4
   clear hv1 hv2 hv3 hv4 hq hrq hb HR
   go_wp2_with (at_builtin; refine wpList_appR (S := NoI) rfl (.const (.slice none 0 0)) (.tmp 24) _ rfl g 93 i0 _ 4 64 Tryz.underlying103 HI0.out HI1.out HI2.out HI3.out rfl (by omega) zr_noI (.slice none 0 0) 0 [] rfl (ownS_none _ _ _ _ _) hA0 hn0 hc0 (rvs vs) rfl HV3.out (rvs_noI vs) ?k1 ?k2 ?k3 ?_)
   case k1 => simp only [maxLen]; omega
   case k2 => omega
   case k3 => have := HGL.out; omega
   intro v' w6 hown hkeep hb6 how6 hblk
   have HB6 := Lib.hid hb6
   have HOW6 := Lib.hid how6
   clear hown hkeep hb6 how6 hblk hc
   go_wp2_with fail
   refine (zeros_any hn0 w6 hn).mono ?_
   rintro e w7 ⟨hb7, gz, vz, rfl, hgz, hbz, hvz⟩
   have HB7 := Lib.hid hb7
   have HOW7 := Lib.hid (HOW6.out.keep hb7)
   have HZR := Lib.hid (zeros_rd hbz)
   have HVZ := Lib.hid hvz
   have HV7 : Hid (RvOk w7 vs q) := Lib.hid (RvOk.up (w := w6) (RvOk.up (w := wr) HV4.out HB6.out) hb7)
   have HBS : Hid (wr.heap.size ≤ w7.heap.size) := Lib.hid (Nat.le_trans HB6.out.size hb7.size)
   clear hb7 hbz hvz hgz HOW6
   go_wp2_with (at_builtin; refine wpList_appR (S := NoI) rfl (.tmp 25) (.tmp 27) _ rfl wr.heap.size 93 i0 _ 4 64 Tryz.underlying103 HI0.out HI1.out HI2.out HI3.out rfl (by omega) zr_noI v' hn0 (rvs vs) rfl HOW7.out (some ⟨gz, 0, none⟩) hn0 hn0 (rvs (List.replicate hn0 vz)) rfl HZR.out (rvs_noI _) ?k1 ?k2 ?k3 ?_)
   case k1 => simp only [maxLen]; omega
   case k2 => omega
   case k3 => exact HBS.out
   intro v2 w8 hown8 hkeep8 hnil8 hblk8
   have HB8 : Hid (Below wr.heap.size wr w8) := Lib.hid (HB6.out.trans ((HB7.out.mono HB6.out.size).trans hkeep8.low))
   have HOQ : Hid (OwnQ w8 wr.heap.size v2 (vs ++ List.replicate hn0 vz) (q ++ List.replicate hn0 0)) := Lib.hid (by
    refine ⟨?_, ?_, ?_⟩
    ·rw [List.length_append, List.length_replicate, HV1.out, rvs_app]; exact hown8
    ·rw [List.length_append, List.length_append, List.length_replicate, List.length_replicate, HV1.out, HQL.out]
    ·refine RvOk.app (fun i p x hp hx => ?_) (rep_ok (RtV.keeps HVZ.out hkeep8)) (by rw [HV1.out, HQL.out])
     exact RtV.keeps (HV7.out i p x hp hx) hkeep8)
   obtain ⟨h2, hv, hvs, hrow⟩ := mrow_own (w' := w8) (g := g) HOQ.out HGL.out
   subst hv
   have HRW := Lib.hid (hrow.mono (base' := g) (Nat.le_of_lt HGL.out))
   have HBW := Lib.hid (HK.out.trans (HB8.out.mono (Nat.le_of_lt HGL.out)))
   have HO8 := Lib.hid (HO.out.up HB8.out)
   have HFR : Hid (∀ j (h' : Mh), j ≠ k → hs[j]? = some h' → 0 < h'.vs.length → 0 < h2.vs.length → h'.g ≠ h2.g) := Lib.hid fun j h' _ hh l1 l2 => by
    have h3 := HO.out.lt hh l1
    have h4 := (hrow.lies (by rw [← hrow.len]; exact l2)).2.1
    omega
   clear hown8 hkeep8 hnil8 hblk8 hvs hrow HK HO HOQ HV7 HVZ HZR HOW7 HB6 HB7 HV3 HV4 HBS
   have HQQ0 : (q ++ List.replicate hn0 (0 : Rat)).length = hn0 + hn0 := by rw [List.length_append, List.length_replicate, HQL.out]
   have HQ9L := Lib.hid HQQ0
   have gl := HO8.out.top.lt
   have gf := HO8.out.top.frozen
   have HKL : Hid (k < (((extR M).take k ++ List.replicate (hn0 - k) []) : List (List Rat)).length) := Lib.hid (by simp; have := HL.out; have := extR_len M; omega)
   obtain ⟨gv, gc⟩ : ∃ gv, w8.cell? ⟨g, k, none⟩ = some gv := by
    rw [HO8.out.top.cell]
    exact ⟨_, Array.getElem?_eq_getElem (by rw [List.size_toArray, List.length_map, HO8.out.len]; exact HKL.out)⟩
   have HO9 := Lib.hid (HO8.out.setRow HKL.out HRW.out HFR.out)
   have HB9 : Hid (Below g w (w8.setCell ⟨g, k, none⟩ (.slice h2.A (q ++ List.replicate hn0 (0 : Rat)).length h2.c))) := Lib.hid (HBW.out.setCell (Nat.le_refl _) _)
   rw [HQQ0] at HO9 HB9 ⊢
   clear HQQ0
   go_upto_region 7 with fail
   clear gl gf gc
   generalize w8.setCell ⟨g, k, none⟩ (.slice h2.A (hn0 + hn0) h2.c) = w9 at *
   have HQ9 : Hid ((((extR M).take k ++ List.replicate (hn0 - k) []).set k (q ++ List.replicate hn0 0))[k]? = some (q ++ List.replicate hn0 0)) := Lib.hid (by rw [List.getElem?_set, if_pos rfl, if_pos HKL.out])
   have HP9 : Hid ((((extR M).take k ++ List.replicate (hn0 - k) []).set k (q ++ List.replicate hn0 0)).set k ((q ++ List.replicate hn0 0).set (hn0 + k) 1) = (extR M).take (k + 1) ++ List.replicate (hn0 - (k + 1)) []) := Lib.hid (by rw [List.set_set, ext_put HQL.out, HF.out])
   generalize (((extR M).take k ++ List.replicate (hn0 - k) []).set k (q ++ List.replicate hn0 0)) = L9 at *
   generalize q ++ List.replicate hn0 (0 : Rat) = q9 at *
   generalize hs.set k h2 = hs9 at *
   obtain ⟨gg, cc, vs9, x9, hh9, c, hx9, c0, c1, c2, c3, hv9, l1, f1, hne⟩ := HO9.out.mat.elem (i := k) (j := hn0 + k) HQ9.out (by rw [HQ9L.out]; omega)
   rw [HQ9L.out] at c
   have HH := Lib.hid hh9
   have HX := Lib.hid hx9
   have gl := HO9.out.top.lt
   have HB4 := Lib.hid (below_drew (Below.refl w9.heap.size w9))
   clear hh9 hx9 hv9 HF HXQ HRW HFR HKL HBW HO8 HV1 HB8
   obtain ⟨m, hm⟩ : ∃ m : Nat, m = hn0 + k := ⟨_, rfl⟩
   rw [← hm] at c0 c1 c2 c3 HX HP9
   have HM := Lib.hid hm
   have hw1 : IntKind.i64.wrap (m : Int) = (m : Int) := IntWalk.i64_in _ (by omega)
   have hw2 : (hn0 : Int) + (k : Int) = (m : Int) := by omega
   have hm2 : m < hn0 + hn0 := by omega
   have hm3 : (m : Int) < ((hn0 + hn0 : Nat) : Int) := by omega
   have hk0 : (0 : Int) ≤ (k : Int) := by omega
   have hm0 : (0 : Int) ≤ (m : Int) := by omega
   have hmn : (m : Int).toNat = m := Int.toNat_natCast m
   generalize hn0 + hn0 = n2 at *
   clear hm
   refine wp_region_last (S := fun w' => Below w9.heap.size w9 w') 9 _ (by kernel_rfl) (by kernel_rfl) rfl (below_drew (Below.refl _ _)) (fun hHeld => ?_)
   simp only [List.take_succ_cons, List.take_zero]
   refine tkH 0 rfl (by intro w' _ hcc; go_simp <;> with_reducible rfl) hHeld ?_
   try simp only [Act.put, sA_, sB_, sC_]
   refine tkH 1 rfl (by intro w' _ hcc; go_simp <;> with_reducible rfl) hHeld ?_
   try simp only [Act.put, sA_, sB_, sC_]
   refine tkH 2 rfl (by intro w' _ hcc; go_simp <;> with_reducible rfl) hHeld ?_
   try simp only [Act.put, sA_, sB_, sC_]
   refine tkH 3 rfl (by intro w' _ hcc; go_simp <;> with_reducible rfl) hHeld ?_
   try simp only [Act.put, sA_, sB_, sC_]
   refine tkH 4 rfl (by intro w' _ hcc; go_simp <;> with_reducible rfl) hHeld ?_
   try simp only [Act.put, sA_, sB_, sC_]
   refine tkH 5 rfl (by intro w' _ hcc; go_simp <;> with_reducible rfl) hHeld ?_
   try simp only [Act.put, sA_, sB_, sC_]
   refine tkH 6 rfl (by intro w' _ hcc; go_simp <;> with_reducible rfl) hHeld ?_
   try simp only [Act.put, sA_, sB_, sC_]
   refine stepH 7 (by kernel_rfl) rfl (fun K hK => ?_)
   go_simp
   refine (wholeV 1 w9.drew (by decide) (by decide)).mono ?_
   rintro e w10 ⟨hb10, v10, rfl, h10⟩
   have HB10 : Hid (Below w9.heap.size w9 w10) := Lib.hid (HB4.out.trans hb10)
   have H10 := Lib.hid h10
   clear hb10 h10
   go_simp
   refine hK.out _ _ ?_ (fun hHeld => ?_)
   ·exact HB10.out
   clear hK K
   try simp only [Act.put, sA_, sB_, sC_]
   refine tkH 8 rfl (by intro w' _ hcc; go_simp <;> with_reducible rfl) hHeld ?_
   try simp only [Act.put, sA_, sB_, sC_]
   refine wpAnyH_done (by kernel_rfl) ?_ _
   refine lastQ_go (by rfl) ?_
   clear hHeld
   have HO10 := Lib.hid (HO9.out.up HB10.out)
   have HB11 := Lib.hid (HB9.out.trans (HB10.out.mono (by have := HB9.out.size; have := HGS.out; omega)))
   clear c c0 c1 c2 c3 l1 f1 hne gl HO9 HB9
   obtain ⟨c0, c1, c2, c3, l1, f1⟩ := HO10.out.mat.elem2 HH.out HQ9.out HX.out
   go_wp2_with fail
   go_roundw
   case rel => exact ⟨k + 1, _, hlt, val_int HN1.out, below_putV HB11.out (by
       obtain ⟨h1, h2, -⟩ := (HO10.out.row k _ q9 HH.out HQ9.out).lies (by rw [HQ9L.out]; omega)
       exact h2), by
       rw [← HP9.out]
       exact HO10.out.put HH.out HQ9.out (by rw [HQ9L.out]; exact hm2) H10.out⟩
   case measure => exact HN2.out
  ·have hke : k = n := by omega
   subst hke
   have hkI : ¬ (k : Int) < (k : Int) := by omega
   have HOX : Hid (OwnM wr g g hs (extR M)) := Lib.hid (by
    have h := HO.out
    rw [Nat.sub_self, List.replicate_zero, List.append_nil, List.take_of_length_le (by rw [extR_len, HL.out]; exact Nat.le_refl _)] at h
    exact h)
   have HRX : Hid (RdM wr wr.heap.size (some ⟨g, 0, none⟩) k (extR M)) := Lib.hid (by have h := HOX.out.rd; rwa [extR_len, HL.out] at h)
   have HRD := Lib.hid (reduce_m (some ⟨g, 0, none⟩) k k k (k + k) b (extR M) wr HRX.out (by omega) HEW.out (by omega) (by omega) HEB.out HSZ.out)
   have HOK := Lib.hid (redR_ok (M := extR M) (N := k + k) (cols := k) HEW.out (by omega))
   clear HRX HO HEB HSZ HEW
   go_wp2_with fail
   refine HRD.out.mono ?_
   rintro e w2 ⟨hb2, g2, hs2, v, rfl, ho2, hp⟩
   obtain ⟨pA, pc, hv, -, -⟩ := hp.shape
   subst hv
   have HB2 := Lib.hid (HK.out.trans (hb2.mono (by have := HK.out.size; have := HGS.out; omega)))
   have HC2 := Lib.hid (ho2.cut (n := k))
   have HGG : Hid (g ≤ wr.heap.size) := Lib.hid (by have := HK.out.size; have := HGS.out; omega)
   rw [show (extR M).length = k from by rw [extR_len, HL.out]]
   have HINV : Hid (∀ (e : Ending) (w' : World), Below w.heap.size w w' → (((redR (extR M) k).2.length < k ∧ e = .returned (.tuple #[.slice none 0 0, .bool false])) ∨ (¬ (redR (extR M) k).2.length < k ∧ ∃ g, e = .returned (.tuple #[.slice (some ⟨g, 0, none⟩) k k, .bool true]) ∧ w.heap.size ≤ g ∧ RdM w' w'.heap.size (some ⟨g, 0, none⟩) k ((redR (extR M) k).1.map (List.drop k)))) → InvP M w e w') := Lib.hid fun e w' h1 h2 => by
    unfold InvP
    rw [HL.out]
    exact ⟨h1, h2⟩
   have HLL : Hid ((redR (extR M) k).1.length = k) := Lib.hid (by rw [HOK.out.len, extR_len, HL.out])
   have HLW := Lib.hid HOK.out.wid
   clear hb2 ho2 hp HRD HOK HOX HK
   generalize (redR (extR M) k).1 = L at *
   generalize (redR (extR M) k).2.length = pl at *
   by_cases hpl : pl < k
   ·have hplI : (pl : Int) < (k : Int) := by omega
    go_wp2_with fail
    go_ret2
    exact HINV.out _ _ (by rw [HGS.out]; exact HB2.out) (.inl ⟨hpl, rfl⟩)
   ·have hplI : ¬ (pl : Int) < (k : Int) := by omega
    go_wp2_with fail
    generalize hs2.map (fun h => (⟨h.A, h.vs.length, h.c⟩ : Hd)) = hs3 at *
    go_loopw [52] (fun v52 wq => ∃ (i : Nat) (hs : List Hd), i ≤ k ∧ v52 = .int .i64 i ∧ Below g w wq ∧ CutM wq wr.heap.size g2 k i hs L) (fun v52 _ => k - (intOf v52).toNat)
    case atStart => exact ⟨0, hs3, by omega, rfl, HB2.out, HC2.out⟩
    case round =>
     clear HB2 HC2
     obtain ⟨i, hsi, hi, rfl, hb, hc⟩ := hrel
     have HB := Lib.hid hb
     have HC := Lib.hid hc
     clear hb hc
     by_cases hlt : i < k
     ·obtain ⟨q, hq⟩ : ∃ q, L[i]? = some q := ⟨_, List.getElem?_eq_getElem (by have := HLL.out; omega)⟩
      obtain ⟨h, hh, c⟩ := HC.out.get hq
      obtain ⟨r1, r2, r3, r4⟩ := HC.out.row i h q hh hq
      rw [if_neg (by omega)] at r1
      have hhn : h.n = k + k := by rw [← r1.len]; exact HLW.out q (List.mem_of_getElem? hq)
      obtain ⟨hA, hn2, hc2⟩ := h
      simp only at c r1 r2 r3 r4 hhn
      subst hhn
      obtain ⟨b2, o2, hA2, hne2⟩ := r4 (by omega)
      subst hA2
      have HR1 := Lib.hid (r1.drop (n := k) (by omega))
      have HHH := Lib.hid hh
      have HQQ := Lib.hid hq
      have gl := HC.out.top.lt
      have gf := HC.out.top.frozen
      have hiI : (i : Int) < (k : Int) := by omega
      have HN1 : Hid ((i : Int) + 1 = ((i + 1 : Nat) : Int)) := Lib.hid (by omega)
      have HN2 : Hid (k - (i + 1) < k - i) := Lib.hid (by omega)
      clear r1 r4 hh hq
      have hk0 : 0 < k := by omega
      have hkc : ¬ hc2 = k := by omega
      have hki : (k : Int) ≤ ((k + k : Nat) : Int) := by omega
      have hkz : (0 : Int) ≤ (k : Int) := by omega
      have hck : (k : Int) ≤ (hc2 : Int) := by omega
      have hck2 : ((k + k : Nat) : Int) ≤ (hc2 : Int) := by omega
      have hkt : (k : Int).toNat = k := Int.toNat_natCast k
      rw [show k + k - k = k from by omega] at HR1
      have HR2 : Hid (k ≤ hc2 - k ∧ hc2 - k ≤ maxLen) := Lib.hid (by omega)
      have hsb : k + k - k = k := by omega
      go_wp2_with fail
      go_roundw
      case rel => exact ⟨i + 1, _, hlt, val_int HN1.out, HB.out.setCell (Nat.le_trans HGG.out HC.out.gb) _, HC.out.step (h2 := ⟨some ⟨b2, o2 + k * 4, none⟩, k, hc2 - k⟩) HHH.out HQQ.out HR1.out HR2.out.1 HR2.out.2 (fun _ => ⟨_, _, rfl, hne2⟩)⟩
      case measure => exact HN2.out
     ·have hie : i = k := by omega
      subst hie
      have hiI : ¬ (i : Int) < (i : Int) := by omega
      go_wp2_with fail
      go_ret2
      exact HINV.out _ _ (by rw [HGS.out]; exact HB.out) (.inr ⟨hpl, g2, rfl, by rw [HGS.out]; exact Nat.le_trans HGG.out HC.out.gb, by have h := HC.out; rw [← HLL.out] at h; have h2 := h.rd; rwa [HLL.out] at h2⟩)
end
section
open Go.ChangeShapes Go.WideShapes Go.ChangeAt Go.RowKit
attribute [local go_sem ↓] execOp_call_val
attribute [local go_sem] callVal_func setCell_drewN alloc_drewN sEq_walk
def susR (b : Br) : Rat := Rat.divInt 1000000 (b.x * b.tap)
def conR (b : Br) : Rat := susR b * Rat.divInt (-b.shift) 1000
def islN (x : Net) : List Nat := (islR x).map Int.toNat
def freeL (x : Net) : List Nat := pick (freeB (islN x)) (busN x)
def mFrom (x : Net) : List Nat := (brE x).map Prod.fst
def mTo (x : Net) : List Nat := (brE x).map Prod.snd
def mB (x : Net) : List Rat := x.brs.map susR
def mC (x : Net) : List Rat := x.brs.map conR
def addAt (A : List (List Rat)) (i j : Nat) (q : Rat) : List (List Rat) := A.set i ((A.getD i []).set j (vf (A.getD i []) j + q))
def plc (free : List Nat) (u : Nat) : Option Nat := free.findIdx? (· == u)
def admStep (free : List Nat) (A : List (List Rat)) (b : Rat) (u v : Nat) : List (List Rat) :=
 if u = v then A else
  match plc free u, plc free v with
  | none, none => A
  | some i, none => addAt A i i b
  | none, some j => addAt A j j b
  | some i, some j => addAt (addAt (addAt (addAt A i i b) j j b) i j (-b)) j i (-b)
def admGo (free : List Nat) : List Rat → List Nat → List Nat → List (List Rat) → List (List Rat)
 | b :: bs, u :: us, v :: vs, A => admGo free bs us vs (admStep free A b u v)
 | _, _, _, A => A
def adm0 (n : Nat) : List (List Rat) := List.replicate n (List.replicate n 0)
def admR (x : Net) : List (List Rat) := admGo (freeL x) (mB x) (mFrom x) (mTo x) (adm0 (freeL x).length)
def mInv (x : Net) : List (List Rat) := (redR (extR (admR x)) (freeL x).length).1.map (List.drop (freeL x).length)
def mReg (x : Net) : Prop := ¬ (redR (extR (admR x)) (freeL x).length).2.length < (freeL x).length
theorem addAt_len {A : List (List Rat)} {i j : Nat} {q : Rat} : (addAt A i j q).length = A.length := by unfold addAt; rw [List.length_set]
theorem addAt_row {A : List (List Rat)} {i j : Nat} {q : Rat} {a : List Rat} (h : A[i]? = some a) : addAt A i j q = A.set i (a.set j (vf a j + q)) := by
 unfold addAt
 rw [List.getD_eq_getElem?_getD, h]
 rfl
theorem addAt_wid {A : List (List Rat)} {i j n : Nat} {q : Rat} (h : ∀ a ∈ A, a.length = n) (hi : i < A.length) : ∀ a ∈ addAt A i j q, a.length = n := fun a ha => by
 obtain ⟨r, hr⟩ : ∃ r, A[i]? = some r := ⟨_, List.getElem?_eq_getElem hi⟩
 rw [addAt_row hr] at ha
 rcases List.mem_or_eq_of_mem_set ha with h1 | h1
 ·exact h a h1
 ·rw [h1, List.length_set]; exact h r (List.mem_of_getElem? hr)
theorem addAt_bd {A : List (List Rat)} {i j K n : Nat} {q : Rat} (h : Bd K A) (hi : i < A.length) (hw : ∀ a ∈ A, a.length = n) (hj : j < n) (hq : qsz q ≤ 1) : Bd (K + 2) (addAt A i j q) := fun a ha x hx => by
 obtain ⟨r, hr⟩ : ∃ r, A[i]? = some r := ⟨_, List.getElem?_eq_getElem hi⟩
 rw [addAt_row hr] at ha
 rcases List.mem_or_eq_of_mem_set ha with h1 | h1
 ·exact Nat.le_trans (h a h1 x hx) (by omega)
 ·rw [h1] at hx
  rcases List.mem_or_eq_of_mem_set hx with h2 | h2
  ·exact Nat.le_trans (h r (List.mem_of_getElem? hr) x h2) (by omega)
  ·have h3 := h.vf hr (j := j) (by rw [hw r (List.mem_of_getElem? hr)]; exact hj)
   have h4 := add_qsz (vf r j) q
   rw [h2]
   omega
theorem plc_lt {free : List Nat} {u i : Nat} (h : plc free u = some i) : i < free.length ∧ free[i]? = some u := by
 unfold plc at h
 rw [List.findIdx?_eq_some_iff_getElem] at h
 obtain ⟨h1, h2, _⟩ := h
 refine ⟨h1, ?_⟩
 rw [List.getElem?_eq_getElem h1]
 simpa using h2
theorem plc_ne {free : List Nat} {u v i j : Nat} (h : plc free u = some i) (h2 : plc free v = some j) (hne : u ≠ v) : i ≠ j := by
 rintro rfl
 have a := (plc_lt h).2
 have b := (plc_lt h2).2
 rw [a] at b
 injection b with b
 exact hne b
structure AdmOk (n K : Nat) (A : List (List Rat)) : Prop where
 len : A.length = n
 wid : ∀ a ∈ A, a.length = n
 bd : Bd K A
theorem AdmOk.add {n K i j : Nat} {A : List (List Rat)} {q : Rat} (h : AdmOk n K A) (hi : i < n) (hj : j < n) (hq : qsz q ≤ 1) : AdmOk n (K + 2) (addAt A i j q) :=
 ⟨addAt_len.trans h.len, addAt_wid h.wid (by rw [h.len]; exact hi), addAt_bd h.bd (by rw [h.len]; exact hi) h.wid hj hq⟩
theorem AdmOk.mono {n K K' : Nat} {A : List (List Rat)} (h : AdmOk n K A) (hk : K ≤ K') : AdmOk n K' A := ⟨h.len, h.wid, h.bd.mono hk⟩
theorem adm0_ok (n : Nat) : AdmOk n 3 (adm0 n) := by
 unfold adm0
 refine ⟨List.length_replicate, fun a ha => by rw [(List.mem_replicate.1 ha).2, List.length_replicate], fun a ha x hx => ?_⟩
 rw [(List.mem_replicate.1 ha).2] at hx
 rw [(List.mem_replicate.1 hx).2]
 decide +kernel
theorem sus_qsz {b : Br} (h : b.bad = false) : qsz (susR b) ≤ 1 := by
 have h1 : 1 ≤ b.x ∧ b.x ≤ 10000 ∧ 500 ≤ b.tap ∧ b.tap ≤ 1500 := by
  unfold Br.bad at h
  simp only [Bool.or_eq_false_iff] at h
  obtain ⟨⟨⟨⟨⟨a1, a2⟩, _⟩, _⟩, _⟩, _⟩ := h
  unfold outB at a1 a2
  have := of_decide_eq_false a1
  have := of_decide_eq_false a2
  omega
 obtain ⟨k, hk⟩ : ∃ k : Nat, b.x * b.tap = (k : Int) := ⟨(b.x * b.tap).toNat, (Int.toNat_of_nonneg (Int.mul_nonneg (by omega) (by omega))).symm⟩
 have hk1 : b.x * b.tap ≤ 10000 * 1500 := Int.mul_le_mul h1.2.1 h1.2.2.2 (by omega) (by omega)
 have hk2 : 1 * 500 ≤ b.x * b.tap := Int.mul_le_mul h1.1 h1.2.2.1 (by omega) (by omega)
 have hk0 : k ≠ 0 := by omega
 unfold susR qsz
 rw [hk, (ratio_num 1000000 hk0).2, (ratio_abs 1000000 hk0).1]
 refine Nat.max_le.2 ⟨dlen_le ?_, dlen_le ?_⟩
 ·refine Nat.lt_of_le_of_lt (Nat.div_le_self ..) ?_
  show _ < 4294967296 ^ 1
  decide
 ·refine Nat.lt_of_le_of_lt (Nat.div_le_self ..) ?_
  show _ < 4294967296 ^ 1
  omega
set_option maxHeartbeats 1000000 in
theorem index_int (A : Option Addr) (n c : Nat) (zs : List Int) (z : Int) (w : World) (hr : RdI w w.heap.size A n zs) (hn : n ≤ 9223372036854775807) :
    Calls Tryz.prog 153 #[.slice A n c, .int .i64 z] w fun e w' => e = .returned (.int .i64 (idxGo (fun x => decide (z = x)) zs 0)) ∧ w = w' := by
 have hlen := Lib.hid hr.len
 go_enter Tryz.func153, Tryz.ntmps153
 go_wp2_with fail
 go_loop [5, 8] (fun _ i => ∃ k : Nat, k ≤ n ∧ i = .int .i64 k ∧ idxGo (fun x => decide (z = x)) zs 0 = idxGo (fun x => decide (z = x)) (zs.drop k) k) (fun _ i => n - (intOf i).toNat)
 case atStart => exact ⟨0, by omega, rfl, rfl⟩
 case round =>
  obtain ⟨k, hk, rfl, hidx⟩ := hrel
  have HIDX := Lib.hid hidx
  clear hidx
  by_cases hlt : k < n
  ·obtain ⟨y, hy⟩ : ∃ y, zs[k]? = some y := ⟨_, List.getElem?_eq_getElem (by have := hlen.out; omega)⟩
   obtain ⟨b, off, rfl, hblt, -⟩ := hr.2 (by omega)
   have hcell := hr.at_ hy
   have HZ := Lib.hid (drop_cons hy)
   clear hy
   by_cases hp : z = y
   ·subst hp
    go_wp2_with fail
    go_ret
    exact ⟨ret_int (by rw [HIDX.out, HZ.out]; simp [idxGo]), rfl⟩
   ·have HP := Lib.hid hp
    go_wp2_with fail
    go_round
    case rel => exact ⟨k + 1, by omega, by go_num, by rw [HIDX.out, HZ.out]; simp [idxGo, HP.out]⟩
    case measure => simp [intOf]; omega
  ·have hd : zs.drop k = [] := by rw [List.drop_eq_nil_iff]; have := hlen.out; omega
   have HD := Lib.hid hd
   clear hd
   go_wp2_with fail
   go_ret
   exact ⟨ret_int (by rw [HIDX.out, HD.out]; rfl), rfl⟩
def optI (o : Option Nat) : Int := match o with | none => -1 | some i => (i : Int)
theorem idxGo_plc (free : List Nat) (u : Nat) : idxGo (fun x => decide ((u : Int) = x)) (natJ free) 0 = optI (plc free u) := by
 have key : ∀ (l : List Nat) (k : Nat), idxGo (fun x => decide ((u : Int) = x)) (natJ l) k = optI ((l.findIdx? (· == u)).map (· + k)) := by
  intro l
  induction l with
  | nil => intro k; rfl
  | cons a r ih =>
   intro k
   rw [List.findIdx?_cons]
   show (if decide ((u : Int) = (a : Int)) then (k : Int) else idxGo _ (natJ r) (k + 1)) = _
   by_cases h : u = a
   ·subst h; simp [optI]
   ·have h1 : ¬ ((u : Int) = (a : Int)) := by omega
    have h2 : (a == u) = false := by simp; omega
    rw [decide_eq_false h1, ih (k + 1), h2]
    simp only [Bool.false_eq_true, if_false]
    congr 1
    rw [Option.map_map]
    congr 1
    funext i
    simp
    omega
 have := key free 0
 rw [this]
 unfold plc
 congr 1
 cases free.findIdx? (· == u) <;> simp
end
section
open Go.ChangeShapes Go.WideShapes Go.ChangeAt Go.RowKit
attribute [local go_sem ↓] execOp_call_val
attribute [local go_sem] callVal_func setCell_drewN alloc_drewN sEq_walk
structure ModH where
 A0 : Option Addr
 n0 : Nat
 c0 : Nat
 A1 : Option Addr
 n1 : Nat
 c1 : Nat
 A2 : Option Addr
 n2 : Nat
 c2 : Nat
 A3 : Option Addr
 n3 : Nat
 c3 : Nat
 A4 : Option Addr
 n4 : Nat
 c4 : Nat
 A5 : Option Addr
 n5 : Nat
 c5 : Nat
 A6 : Option Addr
 n6 : Nat
 c6 : Nat
def ModH.cells (m : ModH) (v : Value) : Array Value := #[.slice m.A0 m.n0 m.c0, .slice m.A1 m.n1 m.c1, .slice m.A2 m.n2 m.c2, .slice m.A3 m.n3 m.c3, .slice m.A4 m.n4 m.c4, .slice m.A5 m.n5 m.c5, .slice m.A6 m.n6 m.c6, v]
structure RdMod (w : World) (B : Nat) (m : ModH) (x : Net) : Prop where
 r0 : RdI w B m.A0 m.n0 (busR x)
 r1 : RdI w B m.A1 m.n1 (islR x)
 r2 : RdI w B m.A2 m.n2 (natJ (mFrom x))
 r3 : RdI w B m.A3 m.n3 (natJ (mTo x))
 r4 : RdQ w B m.A4 m.n4 (mB x)
 r5 : RdQ w B m.A5 m.n5 (mC x)
 r6 : RdI w B m.A6 m.n6 (natJ (freeL x))
section
variable {w w' : World} {B B' : Nat} {m : ModH} {x : Net}
theorem RdMod.below (r : RdMod w B m x) (hb : Below B' w w') (h : B ≤ B') : RdMod w' B m x := ⟨r.r0.below hb h, r.r1.below hb h, r.r2.below hb h, r.r3.below hb h, r.r4.below hb h, r.r5.below hb h, r.r6.below hb h⟩
theorem RdMod.more (r : RdMod w B m x) (h : B ≤ B') : RdMod w B' m x := ⟨r.r0.more h, r.r1.more h, r.r2.more h, r.r3.more h, r.r4.more h, r.r5.more h, r.r6.more h⟩
theorem RdMod.up (r : RdMod w w.heap.size m x) (hb : Below w.heap.size w w') : RdMod w' w'.heap.size m x := (r.below hb (Nat.le_refl _)).more hb.size
end
theorem natJ_len (l : List Nat) : (natJ l).length = l.length := by unfold natJ; rw [List.length_map]
theorem natJ_at {l : List Nat} {i u : Nat} (h : l[i]? = some u) : (natJ l)[i]? = some (u : Int) := by unfold natJ; rw [List.getElem?_map, h]; rfl
theorem mFrom_len (x : Net) : (mFrom x).length = x.brs.length := by unfold mFrom brE; rw [List.length_map, List.length_map]
theorem mTo_len (x : Net) : (mTo x).length = x.brs.length := by unfold mTo brE; rw [List.length_map, List.length_map]
theorem mB_len (x : Net) : (mB x).length = x.brs.length := by unfold mB; rw [List.length_map]
theorem mC_len (x : Net) : (mC x).length = x.brs.length := by unfold mC; rw [List.length_map]
theorem place_any (g : Nat) (m : ModH) (v : Value) (free : List Nat) (u : Nat) (w : World) (hb : Blk w g 123 (m.cells v)) (hr : RdI w w.heap.size m.A6 m.n6 (natJ free)) (hn : m.n6 ≤ 9223372036854775807) :
    Calls Tryz.prog 133 #[.pointer (some ⟨g, 0, none⟩), .int .i64 (u : Int)] w fun e w' => e = .returned (.int .i64 (optI (plc free u))) ∧ w = w' := by
 have c6 := hb.cell 6
 have hl := hb.lt
 have HC := Lib.hid (index_int m.A6 m.n6 m.c6 (natJ free) (u : Int) w hr hn)
 rw [idxGo_plc] at HC
 obtain ⟨A0, n0, c0, A1, n1, c1, A2, n2, c2, A3, n3, c3, A4, n4, c4, A5, n5, c5, A6, n6, k6⟩ := m
 simp only [ModH.cells] at c6 HC
 clear hb hr
 go_enter Tryz.func133, Tryz.ntmps133
 go_wp2_with fail
 refine HC.out.mono ?_
 rintro e w' ⟨rfl, rfl⟩
 go_wp2_with fail
 go_ret
 exact ⟨rfl, rfl⟩
theorem zer_row {w : World} {base g gz n : Nat} {v : Rv} (hb : Blk w gz 93 (rvs (List.replicate n v)).toArray) (hv : RtV w w.heap.size 0 v) (h1 : base ≤ gz) (h2 : gz ≠ g) (hn : n ≤ 1000000) : MRow w base g ⟨some ⟨gz, 0, none⟩, gz, n, List.replicate n v⟩ (List.replicate n 0) :=
 ⟨by simp, by simp, by simp only [maxLen]; omega, rep_ok hv, fun _ => ⟨rfl, h1, h2, _, hb, by rw [List.length_replicate]; show (rvs (List.replicate n v)).take (n * 4) = _; rw [List.take_of_length_le (by rw [rvs_len, List.length_replicate]; exact Nat.le_refl _)]⟩⟩
theorem zer_set {n k : Nat} (hk : k < n) : ((adm0 n).take k ++ List.replicate (n - k) []).set k (List.replicate n 0) = (adm0 n).take (k + 1) ++ List.replicate (n - (k + 1)) [] :=
 fill_set (by unfold adm0; rw [List.length_replicate]) (by unfold adm0; rw [List.getElem?_replicate, if_pos hk])
end
end Go.Proofs.YtakllkkmofdpaaaGreatDoor
