/- (JS without the program:) Splitting at one byte; decimal numerals read back. No program in this text. -/
import Derived.Test.YtaanoljfhnfjoaaGreatDoorRE2
import Derived.Lib.Split
import Derived.Lib.SplitLaws
import Derived.Lib.IndexBytes
import Derived.Lib.IndexLaws
import Derived.Lib.AtoiAll
import Derived.Lib.AtoiAllCases
import Derived.Lib.ItoaMem
namespace Go.Proofs.YtaanoljfhnfjoaaGreatDoor
set_option linter.unusedVariables false

/-- pieces joined by one byte -/
def jn (c : UInt8) : List (List UInt8) → List UInt8
  | [] => []
  | [p] => p
  | p :: q :: ps => p ++ c :: jn c (q :: ps)
theorem jn_cons (c : UInt8) (p : List UInt8) {ps : List (List UInt8)} (h : ps ≠ []) : jn c (p :: ps) = p ++ c :: jn c ps := by
  cases ps with
  | nil => exact absurd rfl h
  | cons q ps => rfl
theorem app_uniq {c : UInt8} : ∀ {a b x y : List UInt8}, c ∉ a → c ∉ b → a ++ c :: x = b ++ c :: y → a = b ∧ x = y
  | [], [], x, y, _, _, h => by simp at h; exact ⟨rfl, h⟩
  | [], d :: b, x, y, _, hb, h => by simp at h; exact absurd (by rw [h.1]; simp) hb
  | d :: a, [], x, y, ha, _, h => by simp at h; exact absurd (by rw [h.1]; simp) ha
  | d :: a, e :: b, x, y, ha, hb, h => by
    simp only [List.cons_append, List.cons.injEq] at h
    obtain ⟨h1, h2⟩ := app_uniq (fun m => ha (List.mem_cons_of_mem _ m)) (fun m => hb (List.mem_cons_of_mem _ m)) h.2
    exact ⟨by rw [h.1, h1], h2⟩
theorem jn_uniq {c : UInt8} : ∀ {ps qs : List (List UInt8)}, ps ≠ [] → qs ≠ [] → (∀ p ∈ ps, c ∉ p) → (∀ p ∈ qs, c ∉ p) → jn c ps = jn c qs → ps = qs
  | [], _, h, _, _, _, _ => absurd rfl h
  | _ :: _, [], _, h, _, _, _ => absurd rfl h
  | [p], [q], _, _, _, _, h => by simp only [jn] at h; rw [h]
  | [p], q :: r :: qs, _, _, hp, _, h => by
    simp only [jn] at h
    exact absurd (by rw [h]; simp) (hp p (by simp))
  | p :: r :: ps, [q], _, _, _, hq, h => by
    simp only [jn] at h
    exact absurd (by rw [← h]; simp) (hq q (by simp))
  | p :: r :: ps, q :: u :: qs, _, _, hp, hq, h => by
    simp only [jn] at h
    obtain ⟨h1, h2⟩ := app_uniq (hp p (by simp)) (hq q (by simp)) h
    have := jn_uniq (by simp) (by simp) (fun x hx => hp x (List.mem_cons_of_mem _ hx)) (fun x hx => hq x (List.mem_cons_of_mem _ hx)) h2
    rw [h1, this]
theorem splitK_spec (c : UInt8) : ∀ (n : Nat) (s : List UInt8), s.length ≤ n → Lib.splitK [c] 0 (Lib.count s [c]) s ≠ [] ∧ jn c (Lib.splitK [c] 0 (Lib.count s [c]) s) = s ∧ ∀ p ∈ Lib.splitK [c] 0 (Lib.count s [c]) s, c ∉ p := by
  intro n
  induction n with
  | zero =>
    intro s hs
    have : s = [] := List.eq_nil_of_length_eq_zero (by omega)
    subst this
    rw [Lib.count_miss (by rw [Lib.index_one]; rfl)]
    exact ⟨by simp [Lib.splitK], rfl, fun p hp => by simp [Lib.splitK] at hp; subst hp; simp⟩
  | succ n ih =>
    intro s hs
    have hge := Lib.index_ge s [c]
    by_cases hm : Lib.index s [c] = -1
    · rw [Lib.count_miss hm]
      refine ⟨by simp [Lib.splitK], rfl, fun p hp => ?_⟩
      simp only [Lib.splitK, List.mem_singleton] at hp
      subst hp
      rw [Lib.index_one] at hm
      intro hc
      obtain ⟨k, hk⟩ := List.mem_iff_getElem?.1 hc
      exact Lib.indexByte_none hm k hk
    · obtain ⟨i, hi⟩ : ∃ i : Nat, Lib.index s [c] = i := ⟨(Lib.index s [c]).toNat, by omega⟩
      have hb := hi
      rw [Lib.index_one] at hb
      obtain ⟨hat, hno⟩ := Lib.indexByte_some hb
      have hil := (List.getElem?_eq_some_iff.1 hat).1
      have hcount := Lib.count_hit (sub := [c]) (by simp) hi
      rw [hcount, Nat.add_comm]
      have hsp : Lib.splitK [c] 0 (Lib.count (s.drop (i + [c].length)) [c] + 1) s = s.take i :: Lib.splitK [c] 0 (Lib.count (s.drop (i + 1)) [c]) (s.drop (i + 1)) := by
        have hne : ¬ (Lib.index s [c] == -1) = true := by simpa using hm
        rw [Lib.splitK, if_neg hne, hi]
        simp
      rw [hsp]
      obtain ⟨h1, h2, h3⟩ := ih (s.drop (i + 1)) (by simp; omega)
      refine ⟨by simp, ?_, fun p hp => ?_⟩
      · rw [jn_cons c _ h1, h2]
        have e := List.take_append_drop i s
        rw [List.drop_eq_getElem_cons hil] at e
        rw [(List.getElem?_eq_some_iff.1 hat).2] at e
        exact e
      · rcases List.mem_cons.1 hp with rfl | hp
        · intro hc
          obtain ⟨k, hk⟩ := List.mem_iff_getElem?.1 hc
          have hkl := (List.getElem?_eq_some_iff.1 hk).1
          rw [List.length_take] at hkl
          rw [List.getElem?_take_of_lt (by omega)] at hk
          exact hno k (by omega) hk
        · exact h3 p hp
/-- what strings.Split hands back at a separator of one byte -/
def spl (c : UInt8) (s : ByteArray) : List ByteArray := Lib.splitB ⟨#[c]⟩ 0 (Lib.countB s ⟨#[c]⟩) s
def bl (s : ByteArray) : List UInt8 := s.data.toList
theorem bl_inj {s t : ByteArray} (h : bl s = bl t) : s = t := by
  obtain ⟨⟨l⟩⟩ := s; obtain ⟨⟨m⟩⟩ := t
  simp only [bl] at h
  rw [h]
theorem spl_map (c : UInt8) (s : ByteArray) : (spl c s).map bl = Lib.splitK [c] 0 (Lib.count (bl s) [c]) (bl s) := Lib.splitB_data ⟨#[c]⟩ 0 _ s
theorem spl_spec (c : UInt8) (s : ByteArray) : spl c s ≠ [] ∧ jn c ((spl c s).map bl) = bl s ∧ ∀ p ∈ spl c s, c ∉ bl p := by
  obtain ⟨h1, h2, h3⟩ := splitK_spec c _ (bl s) (Nat.le_refl _)
  rw [← spl_map] at h1 h2 h3
  exact ⟨fun h => h1 (by rw [h]; rfl), h2, fun p hp => h3 _ (List.mem_map_of_mem hp)⟩
theorem map_bl_inj : ∀ {a b : List ByteArray}, a.map bl = b.map bl → a = b
  | [], [], _ => rfl
  | [], _ :: _, h => by simp at h
  | _ :: _, [], h => by simp at h
  | x :: a, y :: b, h => by
    simp only [List.map_cons, List.cons.injEq] at h
    rw [bl_inj h.1, map_bl_inj h.2]
theorem spl_uniq {c : UInt8} {s : ByteArray} {qs : List ByteArray} (h0 : qs ≠ []) (h1 : jn c (qs.map bl) = bl s) (h2 : ∀ p ∈ qs, c ∉ bl p) : spl c s = qs := by
  obtain ⟨k1, k2, k3⟩ := spl_spec c s
  refine map_bl_inj (jn_uniq (c := c) (by simpa using k1) (by simpa using h0) (fun p hp => ?_) (fun p hp => ?_) (by rw [k2, h1]))
  · obtain ⟨q, hq, rfl⟩ := List.mem_map.1 hp; exact k3 q hq
  · obtain ⟨q, hq, rfl⟩ := List.mem_map.1 hp; exact h2 q hq
theorem spl_count (c : UInt8) (s : ByteArray) : (spl c s).length = Lib.countB s ⟨#[c]⟩ + 1 := Lib.splitB_all ⟨#[c]⟩ (Nat.le_refl 1) 0 _ s rfl

/-! ### numerals -/
theorem parse_app : ∀ (a b : List UInt8) (acc u : Nat), Lib.parseUint10 acc a = .ok u → Lib.parseUint10 acc (a ++ b) = Lib.parseUint10 u b
  | [], b, acc, u, h => by simp only [Lib.parseUint10] at h; injection h with h; rw [h]; rfl
  | c :: a, b, acc, u, h => by
    simp only [Lib.parseUint10] at h
    simp only [List.cons_append, Lib.parseUint10]
    split at h
    · rename_i hd
      rw [if_pos hd]
      split at h
      · cases h
      · rename_i h1
        rw [if_neg h1]
        split at h
        · cases h
        · rename_i h2
          rw [if_neg h2]
          exact parse_app a b _ u h
    · cases h
theorem dig_toNat (d : Nat) (h : d < 10) : (UInt8.ofNat (48 + d)).toNat = 48 + d := by
  rw [UInt8.toNat_ofNat']; omega
theorem parse_dec : ∀ (u : Nat), u < 10000000000000000000 → Lib.parseUint10 0 (Lib.decDigits u) = .ok u := by
  intro u
  induction u using Nat.strongRecOn with
  | _ u ih =>
    intro hu
    rw [Lib.decDigits]
    split
    · rename_i h
      simp only [Lib.parseUint10, dig_toNat u h]
      rw [if_pos (by omega), if_neg (by omega), if_neg (by omega)]
      congr 1; omega
    · rename_i h
      have h1 := ih (u / 10) (by omega) (by omega)
      rw [parse_app _ _ 0 _ h1]
      simp only [Lib.parseUint10, dig_toNat (u % 10) (by omega)]
      rw [if_pos (by omega), if_neg (by omega), if_neg (by omega)]
      congr 1; omega
theorem dec_ne (u : Nat) : Lib.decDigits u ≠ [] := by
  rw [Lib.decDigits]; split <;> simp
theorem dec_chars : ∀ (u : Nat) (b : UInt8), b ∈ Lib.decDigits u → 48 ≤ b.toNat ∧ b.toNat ≤ 57 := by
  intro u
  induction u using Nat.strongRecOn with
  | _ u ih =>
    intro b hb
    rw [Lib.decDigits] at hb
    split at hb
    · rename_i h
      rw [List.mem_singleton] at hb
      subst hb
      rw [dig_toNat u h]; omega
    · rename_i h
      rcases List.mem_append.1 hb with hb | hb
      · exact ih (u / 10) (by omega) b hb
      · rw [List.mem_singleton] at hb
        subst hb
        rw [dig_toNat (u % 10) (by omega)]; omega
theorem dec_len : ∀ (k u : Nat), u < 10 ^ (k + 1) → (Lib.decDigits u).length ≤ k + 1
  | 0, u, h => by
    rw [Lib.decDigits, dif_pos (by simpa using h)]; simp
  | k + 1, u, h => by
    rw [Lib.decDigits]
    split
    · simp
    · have h1 : u / 10 < 10 ^ (k + 1) := by rw [Nat.pow_succ] at h; omega
      have := dec_len k (u / 10) h1
      rw [List.length_append]; simp; omega
theorem itoa_chars {n : Int} {b : UInt8} (h : b ∈ Lib.itoa n) : b.toNat = 45 ∨ (48 ≤ b.toNat ∧ b.toNat ≤ 57) := by
  unfold Lib.itoa at h
  split at h
  · rcases List.mem_cons.1 h with rfl | h
    · exact .inl rfl
    · exact .inr (dec_chars _ _ h)
  · exact .inr (dec_chars _ _ h)
theorem parseMag_dec (u : Nat) (h : u < 10000000000000000000) : Lib.parseMag (Lib.decDigits u) = .ok u := by
  unfold Lib.parseMag
  rw [if_neg (dec_ne u), parse_dec u h]
theorem atoi_itoa (n : Int) (h0 : -1000000000 ≤ n) (h1 : n ≤ 1000000000) : Lib.atoiAll (Lib.itoa n) = .ok n := by
  unfold Lib.itoa
  by_cases hn : n < 0
  · rw [if_pos hn]
    simp only [Lib.atoiAll]
    rw [if_pos (by decide), parseMag_dec _ (by omega)]
    simp only
    rw [if_neg (by simp), if_neg (by omega), if_pos (by decide)]
    congr 1; omega
  · rw [if_neg hn]
    have hp := parseMag_dec n.toNat (by omega)
    cases hd : Lib.decDigits n.toNat with
    | nil => exact absurd hd (dec_ne _)
    | cons c r =>
      have hc := dec_chars n.toNat c (by rw [hd]; simp)
      rw [hd] at hp
      simp only [Lib.atoiAll]
      rw [if_neg (by omega), hp]
      simp only
      rw [if_neg (by omega), if_neg (by omega), if_neg (by omega)]
      congr 1; omega
theorem trim_itoa (n : Int) (h0 : -1000000000 ≤ n) (h1 : n ≤ 1000000000) : (Lib.trimPrefix (Lib.itoa n) [45]).length ≤ 10 := by
  unfold Lib.trimPrefix Lib.itoa
  by_cases hn : n < 0
  · rw [if_pos hn]
    rw [if_pos (by simp [Lib.hasPrefix])]
    simpa using dec_len 9 n.natAbs (by omega)
  · rw [if_neg hn]
    have := dec_len 9 n.toNat (by omega)
    split
    · rw [List.length_drop]; omega
    · exact this

/-- the numerals of the program -/
theorem itoa_dec {v : Int} (h0 : 0 ≤ v) : Lib.itoa v = Lib.decDigits v.toNat := by unfold Lib.itoa; rw [if_neg (by omega)]
def decN (s : Bs) : Int := match Lib.parseUint10 0 s with | .ok u => (u : Int) | _ => 0
def NM : Num where
  dg := Lib.itoa
  dec := decN
  dig := fun v h0 h1 => by
    rw [itoa_dec h0]
    refine ⟨fun c hc => ?_, ?_, ?_, ?_⟩
    · unfold dch
      exact decide_eq_true (dec_chars _ _ hc)
    · have := dec_ne v.toNat
      cases hd : Lib.decDigits v.toNat with
      | nil => exact absurd hd this
      | cons a l => simp
    · exact dec_len 6 v.toNat (by omega)
    · unfold decN
      rw [parse_dec v.toNat (by omega)]
      simp only
      omega
end Go.Proofs.YtaanoljfhnfjoaaGreatDoor
