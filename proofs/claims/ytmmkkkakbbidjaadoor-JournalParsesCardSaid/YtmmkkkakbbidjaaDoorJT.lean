/- What journal.Parse answers; the text of a journal read back. No program in this text. -/
import Derived.Test.YtmmkkkakbbidjaaDoorJU
namespace Go.Proofs.YtmmkkkakbbidjaaDoor
open Go.ChangeShapes Go.WideShapes Go.ChangeAt Go.RowKit
set_option linter.unusedVariables false

/-- a line that is an event's -/
def lineIs (s : ByteArray) (x : Ev) : Prop := ∃ w0 w3, spl 32 s = [w0, x.kind, x.name, w3] ∧ numF w0 = some x.time ∧ numF w3 = some x.value ∧ evCk x = 0
def trimNl (s : ByteArray) : ByteArray := ⟨(Lib.trimSuffix s.data.toList [10]).toArray⟩
def lns (s : ByteArray) : List ByteArray := spl 10 (trimNl s)
def linesAre (ls : List ByteArray) (l : List Ev) : Prop := ls.length = l.length ∧ ∀ (i : Nat) (s : ByteArray) (x : Ev), ls[i]? = some s → l[i]? = some x → lineIs s x
def goodP (s : ByteArray) (l : List Ev) : Prop := s.size ≤ 65536 ∧ ((bl s = [] ∧ l = []) ∨ (bl s ≠ [] ∧ Lib.hasSuffix (bl s) [10] = true ∧ (lns s).length ≤ 256 ∧ linesAre (lns s) l))

theorem lineIs_uniq {s : ByteArray} {x y : Ev} (h : lineIs s x) (k : lineIs s y) : x = y := by
  obtain ⟨a, b, h1, h2, h3, _⟩ := h
  obtain ⟨c, d, k1, k2, k3, _⟩ := k
  rw [h1] at k1
  simp only [List.cons.injEq, and_true] at k1
  obtain ⟨e1, e2, e3, e4⟩ := k1
  subst e1; subst e4
  rw [h2] at k2; rw [h3] at k3
  cases x; cases y
  simp_all
theorem linesAre_uniq {ls : List ByteArray} {l m : List Ev} (h : linesAre ls l) (k : linesAre ls m) : l = m := by
  refine List.ext_getElem? fun i => ?_
  by_cases hi : i < ls.length
  · have h1 := h.2 i _ _ (List.getElem?_eq_getElem hi) (List.getElem?_eq_getElem (by rw [← h.1]; exact hi))
    have h2 := k.2 i _ _ (List.getElem?_eq_getElem hi) (List.getElem?_eq_getElem (by rw [← k.1]; exact hi))
    rw [List.getElem?_eq_getElem (by rw [← h.1]; exact hi), List.getElem?_eq_getElem (by rw [← k.1]; exact hi), lineIs_uniq h1 h2]
  · rw [List.getElem?_eq_none (by rw [← h.1]; omega), List.getElem?_eq_none (by rw [← k.1]; omega)]
theorem goodP_uniq {s : ByteArray} {l m : List Ev} (h : goodP s l) (k : goodP s m) : l = m := by
  rcases h.2 with ⟨h1, h2⟩ | ⟨h1, _, _, h2⟩ <;> rcases k.2 with ⟨k1, k2⟩ | ⟨k1, _, _, k2⟩
  · rw [h2, k2]
  · exact absurd h1 k1
  · exact absurd k1 h1
  · exact linesAre_uniq h2 k2

/-! ### the text of a journal, as bytes -/
def bodyL (z : Ev) : List UInt8 := Lib.itoa z.time ++ 32 :: (bl z.kind ++ 32 :: (bl z.name ++ 32 :: Lib.itoa z.value))
def prtL : List Ev → List UInt8
  | [] => []
  | z :: r => bodyL z ++ 10 :: prtL r
theorem bl_append (a b : ByteArray) : bl (a ++ b) = bl a ++ bl b := by
  obtain ⟨⟨l⟩⟩ := a; obtain ⟨⟨m⟩⟩ := b
  simp [bl, ByteArray.data_append]
theorem bl_itoaB (n : Int) : bl (itoaB n) = Lib.itoa n := rfl
theorem bl_lineB (z : Ev) : bl (lineB z) = bodyL z ++ [10] := by
  unfold lineB bodyL
  simp only [bl_append, bl_itoaB]
  simp [bl]
theorem bl_prtGo : ∀ (l : List Ev) (acc : ByteArray), bl (prtGo acc l) = bl acc ++ prtL l
  | [], acc => by simp [prtGo, prtL]
  | z :: r, acc => by
    simp only [prtGo, prtL]
    rw [bl_prtGo r, bl_append, bl_lineB]
    simp
theorem bl_prtB (l : List Ev) : bl (prtB l) = prtL l := by
  unfold prtB
  rw [bl_prtGo]; rfl
theorem prtL_jn : ∀ (l : List Ev), l ≠ [] → prtL l = jn 10 (l.map bodyL) ++ [10]
  | [], h => absurd rfl h
  | [z], _ => by simp [prtL, jn]
  | z :: y :: r, _ => by
    have := prtL_jn (y :: r) (by simp)
    show bodyL z ++ 10 :: prtL (y :: r) = _
    rw [this, show (z :: y :: r).map bodyL = bodyL z :: (y :: r).map bodyL from rfl, jn_cons 10 (bodyL z) (ps := (y :: r).map bodyL) (by simp)]
    simp only [List.append_assoc, List.cons_append]
theorem body_jn (z : Ev) : jn 32 [Lib.itoa z.time, bl z.kind, bl z.name, Lib.itoa z.value] = bodyL z := rfl
theorem nmGo_chars : ∀ {l : List UInt8} {i : Nat}, nmGo i l = true → ∀ b ∈ l, b.toNat ≠ 10 ∧ b.toNat ≠ 32
  | [], _, _, b, hb => by simp at hb
  | c :: r, i, h, b, hb => by
    simp only [nmGo, Bool.and_eq_true] at h
    rcases List.mem_cons.1 hb with rfl | hb
    · have h1 := h.1
      unfold nmCh at h1
      rw [decide_eq_true_eq] at h1
      omega
    · exact nmGo_chars h.2 b hb
theorem nameB_chars {s : ByteArray} (h : nameB s = true) (b : UInt8) (hb : b ∈ bl s) : b.toNat ≠ 10 ∧ b.toNat ≠ 32 := by
  unfold nameB at h
  rw [Bool.and_eq_true] at h
  exact nmGo_chars h.1 b hb
theorem not_mem_of {c : UInt8} {l : List UInt8} (h : ∀ b ∈ l, b.toNat ≠ c.toNat) : c ∉ l := fun hc => h c hc rfl
theorem itoa_no (n : Int) (c : UInt8) (hc : c.toNat = 10 ∨ c.toNat = 32) : c ∉ Lib.itoa n := not_mem_of fun b hb => by
  have := itoa_chars hb; omega
theorem body_no {z : Ev} (h : evCk z = 0) : (10 : UInt8) ∉ bodyL z := by
  obtain ⟨_, _, hk, hn, _, _⟩ := evCk_ok h
  unfold bodyL
  simp only [List.mem_append, List.mem_cons, not_or]
  exact ⟨itoa_no _ _ (.inl rfl), by decide, not_mem_of fun b hb => (nameB_chars hk b hb).1, by decide, not_mem_of fun b hb => (nameB_chars hn b hb).1, by decide, itoa_no _ _ (.inl rfl)⟩
theorem body_spl {z : Ev} (h : evCk z = 0) {s : ByteArray} (hs : bl s = bodyL z) : lineIs s z := by
  obtain ⟨h0, h1, hk, hn, h2, h3⟩ := evCk_ok h
  refine ⟨itoaB z.time, itoaB z.value, spl_uniq (by simp) (by rw [hs]; rfl) ?_, ?_, ?_, h⟩
  · intro p hp
    simp only [List.mem_cons, List.not_mem_nil, or_false] at hp
    rcases hp with rfl | rfl | rfl | rfl
    · exact itoa_no _ _ (.inr rfl)
    · exact not_mem_of fun b hb => (nameB_chars hk b hb).2
    · exact not_mem_of fun b hb => (nameB_chars hn b hb).2
    · exact itoa_no _ _ (.inr rfl)
  · rw [numF_ok (s := itoaB z.time) (n := z.time) (atoi_itoa z.time (by omega) (by omega)), if_pos ⟨trim_itoa _ (by omega) (by omega), rfl⟩]
  · rw [numF_ok (s := itoaB z.value) (n := z.value) (atoi_itoa z.value (by omega) (by omega)), if_pos ⟨trim_itoa _ (by omega) (by omega), rfl⟩]
theorem numF_itoa {s : ByteArray} {n : Int} (h : numF s = some n) : bl s = Lib.itoa n := by
  unfold numF at h
  split at h
  · split at h
    · rename_i hc
      injection h with h
      subst h
      rw [← hc.2]; rfl
    · cases h
  · cases h
theorem line_body {s : ByteArray} {z : Ev} (h : lineIs s z) : bl s = bodyL z := by
  obtain ⟨a, b, h1, h2, h3, _⟩ := h
  have := (spl_spec 32 s).2.1
  rw [h1] at this
  rw [← this]
  simp only [List.map_cons, List.map_nil, numF_itoa h2, numF_itoa h3]
  rfl
theorem bl_trimNl (s : ByteArray) : bl (trimNl s) = Lib.trimSuffix (bl s) [10] := by simp [bl, trimNl]
theorem suf_iff {l : List UInt8} (h : Lib.hasSuffix l [10] = true) : l = Lib.trimSuffix l [10] ++ [10] := by
  unfold Lib.trimSuffix
  rw [if_pos h]
  unfold Lib.hasSuffix at h
  rw [List.isSuffixOf_iff_suffix] at h
  obtain ⟨t, rfl⟩ := h
  simp
theorem trim_snoc (l : List UInt8) : Lib.hasSuffix (l ++ [10]) [10] = true ∧ Lib.trimSuffix (l ++ [10]) [10] = l := by
  have h : Lib.hasSuffix (l ++ [10]) [10] = true := by
    unfold Lib.hasSuffix
    rw [List.isSuffixOf_iff_suffix]
    exact ⟨l, rfl⟩
  refine ⟨h, ?_⟩
  unfold Lib.trimSuffix
  rw [if_pos h]
  simp
theorem ckEv_of {l : List Ev} (h : l.length ≤ 256) (hc : ∀ x ∈ l, evCk x = 0) : ckEv l = 0 := by
  unfold ckEv
  rw [if_neg (by omega)]
  clear h
  induction l with
  | nil => rfl
  | cons x r ih =>
    unfold ckGo
    rw [if_neg (by rw [hc x (by simp)]; simp)]
    exact ih fun y hy => hc y (List.mem_cons_of_mem _ hy)
/-- an accepted text is the text of its journal -/
theorem goodP_prt {s : ByteArray} {l : List Ev} (h : goodP s l) : prtB l = s ∧ ckEv l = 0 := by
  rcases h.2 with ⟨h1, rfl⟩ | ⟨h1, h2, h3, h4⟩
  · exact ⟨bl_inj (by rw [bl_prtB, h1]; rfl), rfl⟩
  · obtain ⟨k1, k2, _⟩ := spl_spec 10 (trimNl s)
    have hmap : (lns s).map bl = l.map bodyL := by
      refine List.ext_getElem? fun i => ?_
      rw [List.getElem?_map, List.getElem?_map]
      by_cases hi : i < (lns s).length
      · have hi2 : i < l.length := by rw [← h4.1]; exact hi
        rw [List.getElem?_eq_getElem hi, List.getElem?_eq_getElem hi2]
        have := line_body (h4.2 i _ _ (List.getElem?_eq_getElem hi) (List.getElem?_eq_getElem hi2))
        simp [this]
      · have hi2 : ¬ i < l.length := by rw [← h4.1]; exact hi
        rw [List.getElem?_eq_none (by omega), List.getElem?_eq_none (by omega)]; rfl
    have hne : l ≠ [] := fun e => by
      have h5 := h4.1
      rw [e] at h5
      exact k1 (List.eq_nil_of_length_eq_zero h5)
    refine ⟨bl_inj ?_, ckEv_of (by rw [← h4.1]; exact h3) fun x hx => ?_⟩
    · rw [bl_prtB, prtL_jn l hne, ← hmap]
      unfold lns
      rw [k2, bl_trimNl]
      exact (suf_iff h2).symm
    · obtain ⟨i, hi⟩ := List.mem_iff_getElem?.1 hx
      have hi2 := (List.getElem?_eq_some_iff.1 hi).1
      obtain ⟨_, _, _, _, _, hc⟩ := h4.2 i _ _ (List.getElem?_eq_getElem (by rw [h4.1]; exact hi2)) hi
      exact hc
theorem body_len {z : Ev} (h : evCk z = 0) : (bodyL z).length ≤ 61 := by
  obtain ⟨h0, h1, hk, hn, h2, h3⟩ := evCk_ok h
  have a1 := Lib.itoa_length_le z.time (by omega) (by omega)
  have a2 := Lib.itoa_length_le z.value (by omega) (by omega)
  have b1 := (nameB_size hk).2
  have b2 := (nameB_size hn).2
  have c1 : (bl z.kind).length = z.kind.size := (Lib.size_eq _).symm
  have c2 : (bl z.name).length = z.name.size := (Lib.size_eq _).symm
  unfold bodyL
  simp only [List.length_append, List.length_cons]
  omega
theorem prtL_len : ∀ {l : List Ev}, (∀ x ∈ l, evCk x = 0) → (prtL l).length ≤ l.length * 62
  | [], _ => by simp [prtL]
  | z :: r, h => by
    have h1 := prtL_len (l := r) fun x hx => h x (List.mem_cons_of_mem _ hx)
    have h2 := body_len (h z (by simp))
    simp only [prtL, List.length_append, List.length_cons]
    omega
/-- the text of a journal is accepted, and read back -/
theorem goodP_of {l : List Ev} (h : ckEv l = 0) : goodP (prtB l) l := by
  have hl := ckEv_len h
  have ha := ckEv_all h
  have hsz : (prtB l).size = (prtL l).length := by rw [Lib.size_eq]; exact congrArg List.length (bl_prtB l)
  refine ⟨by rw [hsz]; have := prtL_len ha; omega, ?_⟩
  by_cases hn : l = []
  · subst hn; exact .inl ⟨by rw [bl_prtB]; rfl, rfl⟩
  · refine .inr ?_
    have hj := prtL_jn l hn
    obtain ⟨t1, t2⟩ := trim_snoc (jn 10 (l.map bodyL))
    have hls : lns (prtB l) = l.map fun z => (⟨(bodyL z).toArray⟩ : ByteArray) := by
      unfold lns
      refine spl_uniq (by simpa using hn) ?_ ?_
      · rw [bl_trimNl, bl_prtB, hj, t2, List.map_map]
        congr 1
      · intro p hp
        obtain ⟨z, hz, rfl⟩ := List.mem_map.1 hp
        exact body_no (ha z hz)
    refine ⟨by rw [bl_prtB, hj]; simp, by rw [bl_prtB, hj]; exact t1, by rw [hls]; simpa using hl, by rw [hls]; simp, fun i s x hs hx => ?_⟩
    rw [hls, List.getElem?_map, hx] at hs
    injection hs with hs
    subst hs
    exact body_spl (ha x (List.mem_of_getElem? hx)) rfl
end Go.Proofs.YtmmkkkakbbidjaaDoor
