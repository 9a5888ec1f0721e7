/- The order of Coordinate; IndexFunc over relays. -/
import Derived.Test.YthedpegaelpbdaaEA
namespace Go.Proofs.Ythedpegaelpbdaa
open Go.ChangeShapes Go.WideShapes Go.ChangeAt Go.RowKit Go.Joins Go.Deep
set_option linter.unusedVariables false
attribute [local go_sem ↓] execOp_call_val
attribute [local go_sem] callVal_func setCell_drewN alloc_drewN sEq_walk NetH.cells

/-- the order in which relays are taken out -/
def CirO (ps : List (Nat × Nat)) (n : Nat) (left : List Bool) : Prop := left.length = n ∧ ∃ ord : List Nat, (∀ k, k < n → left.getD k false = false → k ∈ ord) ∧ ∀ (i k : Nat), ord[i]? = some k → ∀ p ∈ ps, p.2 = k → p.1 ∈ ord.take i
theorem CirO.step {ps : List (Nat × Nat)} {n : Nat} {left : List Bool} (H : CirO ps n left) (hps : ∀ p ∈ ps, p.1 < n) (j : Nat) : CirO ps n (cirK ps left j) := by
  refine ⟨by rw [cirK_len]; exact H.1, ?_⟩
  unfold cirK
  split
  · rename_i hc
    obtain ⟨hl, ord, h1, h2⟩ := H
    refine ⟨ord ++ [j], fun k hk hf => ?_, fun i k hi p hp hpk => ?_⟩
    · by_cases hkj : k = j
      · subst hkj; simp
      · refine List.mem_append_left _ (h1 k hk ?_)
        simp only [List.getD_eq_getElem?_getD] at hf ⊢
        rw [List.getElem?_set_ne (Ne.symm hkj)] at hf
        exact hf
    · by_cases hil : i < ord.length
      · rw [List.getElem?_append_left hil] at hi
        rw [List.take_append_of_le_length (by omega)]
        exact h2 i k hi p hp hpk
      · have hie : i = ord.length := by
          have := (List.getElem?_eq_some_iff.1 hi).1
          simp at this; omega
        subst hie
        simp at hi
        subst hi
        rw [List.take_append_of_le_length (Nat.le_refl _), List.take_length]
        refine h1 p.1 (hps p hp) ?_
        have h3 := List.any_eq_false.1 hc.2 p hp
        simpa [hpk] using h3
  · exact H.2
theorem CirO.pass {ps : List (Nat × Nat)} {n : Nat} {left : List Bool} (H : CirO ps n left) (hps : ∀ p ∈ ps, p.1 < n) : ∀ j, CirO ps n (cirF ps left j)
  | 0 => H
  | j + 1 => (CirO.pass H hps j).step hps j
theorem CirO.all {ps : List (Nat × Nat)} {n : Nat} (hps : ∀ p ∈ ps, p.1 < n) : ∀ m, CirO ps n (cirN ps n m)
  | 0 => ⟨by simp [cirN], [], fun k hk hf => by simp [cirN, List.getD_eq_getElem?_getD, hk] at hf, fun i k hi => by simp at hi⟩
  | m + 1 => (CirO.all hps m).pass hps n
theorem cir_next {ps : List (Nat × Nat)} {n : Nat} (hps : ∀ p ∈ ps, p.1 < n) (hB : cirB ps n = false) (z : Nat → Bool) (h0 : ∃ k, k < n ∧ z k = false) : ∃ k, k < n ∧ z k = false ∧ ∀ p ∈ ps, p.2 = k → z p.1 = true := by
  obtain ⟨hl, ord, h1, h2⟩ := CirO.all hps n
  have hall : ∀ k, k < n → k ∈ ord := fun k hk => h1 k hk (by
    have h3 := List.any_eq_false.1 hB
    rw [List.getD_eq_getElem?_getD, List.getElem?_eq_getElem (by omega)]
    simpa using h3 _ (List.getElem_mem (by omega)))
  have key : ∀ (i k : Nat), ord[i]? = some k → k < n → z k = false → ∃ k, k < n ∧ z k = false ∧ ∀ p ∈ ps, p.2 = k → z p.1 = true := by
    intro i
    induction i using Nat.strongRecOn with
    | _ i ih =>
      intro k hi hk hz
      by_cases hq : ∀ p ∈ ps, p.2 = k → z p.1 = true
      · exact ⟨k, hk, hz, hq⟩
      · obtain ⟨p, hp⟩ := Classical.not_forall.1 hq
        obtain ⟨hpm, hp⟩ := Classical.not_imp.1 hp
        obtain ⟨hpk, hpz⟩ := Classical.not_imp.1 hp
        have hm := h2 i k hi p hpm hpk
        obtain ⟨i', hi'⟩ := List.mem_iff_getElem?.1 hm
        have hlt := (List.getElem?_eq_some_iff.1 hi').1
        rw [List.length_take] at hlt
        rw [List.getElem?_take_of_lt (by omega)] at hi'
        exact ih i' (by omega) p.1 hi' (hps p hpm) (by simpa using hpz)
  obtain ⟨k, hk, hz⟩ := h0
  obtain ⟨i, hi⟩ := List.mem_iff_getElem?.1 (hall k hk)
  exact key i k hi hk hz
theorem DofC.congr {m l h : Int} {r : List Cr} {d1 d2 : List Int} {k : Nat} {p : Nat × Nat} {dp : Int} (H : DofC m l h r d1 k p dp) (he : d1.getD p.1 0 = d2.getD p.1 0) : DofC m l h r d2 k p dp := by
  obtain ⟨a, b, c, h1, h2, h3, h4⟩ := H
  exact ⟨a, b, c, h1, h2, by rw [← he]; exact h3, h4⟩
theorem DofI.congr {m l h : Int} {r : List Cr} {d1 d2 : List Int} {k : Nat} {ps : List (Nat × Nat)} {d : Int} (H : DofI m l h r d1 k ps d) (he : ∀ p ∈ ps, p.2 = k → d1.getD p.1 0 = d2.getD p.1 0) : DofI m l h r d2 k ps d := by
  refine ⟨fun p hp hk => ?_, ?_⟩
  · obtain ⟨dp, h1, h2⟩ := H.1 p hp hk
    exact ⟨dp, h1.congr (he p hp hk), h2⟩
  · rcases H.2 with h1 | ⟨p, hp, hk, h1⟩
    · exact .inl h1
    · exact .inr ⟨p, hp, hk, h1.congr (he p hp hk)⟩
/-- the dial of relay k is what its main relays ask for -/
def DofK (m l h : Int) (r : List Cr) (ps : List (Nat × Nat)) (dials : List Int) (k : Nat) : Prop := ∃ d0, 0 ≤ d0 ∧ DofI m l h r dials k ps d0 ∧ dials.getD k 0 = if d0 = 0 then 1000 else d0
/-- the state of Coordinate: the relays that have a dial, and their main relays -/
structure CooS (m l h : Int) (r : List Cr) (ps : List (Nat × Nat)) (n : Nat) (dials : List Int) : Prop where
  len : dials.length = n
  ok : ∀ k, k < n → dials.getD k 0 ≠ 0 → DofK m l h r ps dials k ∧ ∀ p ∈ ps, p.2 = k → dials.getD p.1 0 ≠ 0
theorem CooS.put {m l h : Int} {r : List Cr} {ps : List (Nat × Nat)} {n : Nat} {dials : List Int} (H : CooS m l h r ps n dials) {k : Nat} (hk : k < n) (h0 : dials.getD k 0 = 0) (hm : ∀ p ∈ ps, p.2 = k → dials.getD p.1 0 ≠ 0) {d0 d : Int} (hd0 : 0 ≤ d0) (hI : DofI m l h r dials k ps d0) (hd : d = if d0 = 0 then 1000 else d0) :
    CooS m l h r ps n (dials.set k d) ∧ d ≠ 0 := by
  have hdn : d ≠ 0 := by rw [hd]; split <;> omega
  have hkl : k < dials.length := by rw [H.len]; exact hk
  have hself : (dials.set k d).getD k 0 = d := by rw [List.getD_eq_getElem?_getD, List.getElem?_set_self hkl]; rfl
  have hoth : ∀ j, j ≠ k → (dials.set k d).getD j 0 = dials.getD j 0 := fun j hj => by
    rw [List.getD_eq_getElem?_getD, List.getElem?_set_ne (Ne.symm hj), ← List.getD_eq_getElem?_getD]
  have hne : ∀ p : Nat × Nat, dials.getD p.1 0 ≠ 0 → p.1 ≠ k := fun p h1 h2 => h1 (by rw [h2]; exact h0)
  refine ⟨⟨by simp [H.len], fun j hj hjn => ?_⟩, hdn⟩
  by_cases hjk : j = k
  · subst hjk
    refine ⟨⟨d0, hd0, hI.congr fun p hp hpk => (hoth _ (hne p (hm p hp hpk))).symm, by rw [hself, hd]⟩, fun p hp hpk => by rw [hoth _ (hne p (hm p hp hpk))]; exact hm p hp hpk⟩
  · rw [hoth j hjk] at hjn
    obtain ⟨⟨e0, h1, h2, h3⟩, h4⟩ := H.ok j hj hjn
    refine ⟨⟨e0, h1, h2.congr fun p hp hpk => (hoth _ (hne p (h4 p hp hpk))).symm, by rw [hoth j hjk]; exact h3⟩, fun p hp hpk => by rw [hoth _ (hne p (h4 p hp hpk))]; exact h4 p hp hpk⟩
/-- how many have a dial -/
def nzs (l : List Int) : Nat := (l.filter (· != 0)).length
theorem nzs_set : ∀ (l : List Int) (i : Nat) (d : Int), d ≠ 0 → i < l.length → l.getD i 0 = 0 → nzs (l.set i d) = nzs l + 1
  | [], i, d, _, h, _ => by simp at h
  | x :: r, 0, d, hd, _, h => by
    have hx : x = 0 := by simpa using h
    subst hx
    simp [nzs, List.filter_cons, hd]
  | x :: r, i + 1, d, hd, hl, h => by
    have ih := nzs_set r i d hd (by simpa using hl) (by simpa using h)
    unfold nzs at ih ⊢
    rw [List.set_cons_succ]
    by_cases hx : x = 0 <;> simp [List.filter_cons, hx] <;> omega
theorem nzs_zero : ∀ (l : List Int), nzs l < l.length → ∃ k, k < l.length ∧ l.getD k 0 = 0
  | [], h => by simp at h
  | x :: r, h => by
    by_cases hx : x = 0
    · exact ⟨0, by simp, by simpa using hx⟩
    · obtain ⟨k, h1, h2⟩ := nzs_zero r (by simp [nzs, List.filter_cons, hx] at h ⊢; omega)
      exact ⟨k + 1, by simpa using h1, by simpa using h2⟩
theorem nzs_all : ∀ (l : List Int), nzs l = l.length → ∀ k, k < l.length → l.getD k 0 ≠ 0
  | [], _, k, hk => by simp at hk
  | x :: r, h, k, hk => by
    have hle : nzs r ≤ r.length := List.length_filter_le _ _
    by_cases hx : x = 0
    · simp [nzs, List.filter_cons, hx] at h hle; omega
    · match k with
      | 0 => simpa using hx
      | k + 1 =>
        have h' : nzs r = r.length := by simp [nzs, List.filter_cons, hx] at h ⊢; omega
        have := nzs_all r h' k (by simpa using hk)
        simpa using this

set_option maxHeartbeats 1000000 in
theorem indexFuncCh (F : FuncId) (cap : Array Value) (A : Option Addr) (n c : Nat) (zs : List Ch) (p : Ch → Bool) (I : World → Prop)
    (hF : ∀ (args : Array Value) (w : World), (callFunc F args).run Try.prog w = .ok (.enter F args) w)
    (hI : ∀ w', I w' → RdCh w' w'.heap.size A n zs)
    (hf : ∀ (z : Ch) (w' : World), z ∈ zs → I w' → Calls Try.prog F (#[.agg #[.string z.r.brk, .string z.r.branch, .string z.r.node, .slice z.A z.n z.c, .int .i64 z.r.pick, .int .i64 z.r.opn]] ++ cap) w' fun e w'' => e = .returned (.bool (p z)) ∧ I w'')
    (hn : n ≤ 9223372036854775807) (w : World) (hw : I w) :
    Calls Try.prog 74 #[.slice A n c, .func (.func F) #[] cap] w fun e w' => e = .returned (.int .i64 (idxGo p zs 0)) ∧ I w' := by
  have HF := Lib.hid hf
  have HII := Lib.hid hI
  have HI := Lib.hid hw
  have hlen := Lib.hid (hI w hw).1
  clear hf hw hI
  go_enter Try.func74, Try.ntmps74
  go_wp2_with fail
  go_loopw [5, 8] (fun _ i wr => ∃ k : Nat, k ≤ n ∧ i = .int .i64 k ∧ I wr ∧ idxGo p zs 0 = idxGo p (zs.drop k) k) (fun _ i _ => n - (intOf i).toNat)
  case atStart => exact ⟨0, by omega, rfl, HI.out, rfl⟩
  case round =>
    obtain ⟨k, hk, rfl, hIw, hidx⟩ := hrel
    have hrd := HII.out wr hIw
    have HIW := Lib.hid hIw
    have HIDX := Lib.hid hidx
    clear hIw hidx
    by_cases hlt : k < n
    · obtain ⟨z, hz⟩ : ∃ z, zs[k]? = some z := ⟨_, List.getElem?_eq_getElem (by have := hlen.out; omega)⟩
      have HM := Lib.hid (List.mem_of_getElem? hz)
      obtain ⟨b, off, rfl, hblt⟩ := hrd.form (by omega)
      obtain ⟨c0, c1, c2, c3, c4, c5⟩ := hrd.at_ hz
      have HZ := Lib.hid (drop_cons hz)
      clear hz
      go_wp2_with fail
      refine (HF.out z wr HM.out HIW.out).mono ?_
      cases hp : p z with
      | true =>
        rintro e w1 ⟨rfl, hI1⟩
        have HI1 := Lib.hid hI1
        have HP := Lib.hid hp
        clear hI1 hp
        go_wp2_with fail
        go_ret
        exact ⟨ret_int (by rw [HIDX.out, HZ.out]; simp [idxGo, HP.out]), HI1.out⟩
      | false =>
        rintro e w1 ⟨rfl, hI1⟩
        have HI1 := Lib.hid hI1
        have HP := Lib.hid hp
        clear hI1 hp
        go_wp2_with fail
        go_roundw
        case rel => exact ⟨k + 1, by omega, by go_num, HI1.out, by rw [HIDX.out, HZ.out]; simp [idxGo, HP.out]⟩
        case measure => simp [intOf]; omega
    · have hd : zs.drop k = [] := by rw [List.drop_eq_nil_iff]; have := hlen.out; omega
      have HD := Lib.hid hd
      clear hd hrd
      go_wp2_with fail
      go_ret
      exact ⟨ret_int (by rw [HIDX.out, HD.out]; rfl), HIW.out⟩
end Go.Proofs.Ythedpegaelpbdaa
