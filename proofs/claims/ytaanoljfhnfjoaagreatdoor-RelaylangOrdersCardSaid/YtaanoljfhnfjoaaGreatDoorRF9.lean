/- relaylang.Parse. -/
import Derived.Test.YtaanoljfhnfjoaaGreatDoorRF8
import Derived.Test.YtaanoljfhnfjoaaGreatDoorDD
namespace Go.Proofs.YtaanoljfhnfjoaaGreatDoor
open Go.ChangeShapes Go.WideShapes Go.ChangeAt Go.RowKit
set_option linter.unusedVariables false
set_option linter.unusedSimpArgs false
attribute [local go_sem ↓] execOp_call_val
attribute [local go_sem] callVal_func setCell_drewN alloc_drewN sEq_walk

theorem flat_fit (N : Num) : ∀ t : Tr, ∀ x ∈ t.flat, x.name.size ≤ (t.pr N).length
  | .flag s, x, h => by simp only [Tr.flat, List.mem_singleton] at h; subst h; exact Nat.le_refl _
  | .gt s v, x, h => by simp only [Tr.flat, List.mem_singleton] at h; subst h; simp only [Tr.pr, List.length_append]; exact Nat.le_add_right _ _
  | .lt s v, x, h => by simp only [Tr.flat, List.mem_singleton] at h; subst h; simp only [Tr.pr, List.length_append]; exact Nat.le_add_right _ _
  | .not a, x, h => by
    simp only [Tr.flat, List.mem_cons] at h
    rcases h with rfl | h
    · exact Nat.zero_le _
    · have := flat_fit N a x h
      have := (paren_len a.isAO (a.pr N)).1
      simp only [Tr.pr, List.length_append]; omega
  | .and a b, x, h => by
    simp only [Tr.flat, List.mem_cons, List.mem_append] at h
    have := (paren_len a.isOr (a.pr N)).1
    have := (paren_len b.isAO (b.pr N)).1
    simp only [Tr.pr, List.length_append]
    rcases h with rfl | h | h
    · exact Nat.zero_le _
    · have := flat_fit N a x h; omega
    · have := flat_fit N b x h; omega
  | .or a b, x, h => by
    simp only [Tr.flat, List.mem_cons, List.mem_append] at h
    have := (paren_len b.isOr (b.pr N)).1
    simp only [Tr.pr, List.length_append]
    rcases h with rfl | h | h
    · exact Nat.zero_le _
    · have := flat_fit N a x h; omega
    · have := flat_fit N b x h; omega
  | .delay v a, x, h => by
    simp only [Tr.flat, List.mem_cons] at h
    simp only [Tr.pr, List.length_append]
    rcases h with rfl | h
    · exact Nat.zero_le _
    · have := flat_fit N a x h; omega
  | .latch a b, x, h => by
    simp only [Tr.flat, List.mem_cons, List.mem_append] at h
    simp only [Tr.pr, List.length_append]
    rcases h with rfl | h | h
    · exact Nat.zero_le _
    · have := flat_fit N a x h; omega
    · have := flat_fit N b x h; omega
theorem ruleP_fit {N : Num} {s : Bs} {r : Rl} (h : ruleP N s = some r) (hs : s.length ≤ 8192) : r.Fit := by
  obtain ⟨t, ht, hl⟩ := ruleP_reads h
  unfold lineT at hl
  simp only [List.length_append] at hl
  have h0 : (bbs r.name).length = r.name.size := rfl
  refine ⟨by simp only [maxLen]; omega, fun x hx => ?_⟩
  rw [ht] at hx
  have := flat_fit N t x hx
  simp only [maxLen]
  omega
theorem has_suf (l : Bs) : Lib.hasSuffix l [10] = endsNl l := by
  unfold Lib.hasSuffix endsNl
  rw [Bool.eq_iff_iff, decide_eq_true_eq, List.isSuffixOf_iff_suffix]
  constructor
  · rintro ⟨t, rfl⟩; simp
  · intro h
    obtain ⟨t, rfl⟩ := List.getLast?_eq_some_iff.1 h
    exact ⟨t, rfl⟩
theorem trim_suf (s : ByteArray) : (⟨(Lib.trimSuffix s.data.toList (⟨#[10]⟩ : ByteArray).data.toList).toArray⟩ : ByteArray) = bsB (trimNl (bbs s)) := by
  unfold trimNl Lib.trimSuffix bsB
  rw [show Lib.hasSuffix s.data.toList (⟨#[10]⟩ : ByteArray).data.toList = endsNl (bbs s) from has_suf _]
  cases hh : endsNl (bbs s) with
  | true =>
    simp only [if_true]
    congr 2
    rw [List.dropLast_eq_take]
    rfl
  | false => rfl
theorem trim_len (s : ByteArray) : (bsB (trimNl (bbs s))).size ≤ s.size := by
  show (trimNl (bbs s)).length ≤ (bbs s).length
  unfold trimNl
  split
  · rw [List.length_dropLast]; omega
  · exact Nat.le_refl _
theorem jn_len {c : UInt8} : ∀ {ps : List (List UInt8)} {p : List UInt8}, p ∈ ps → p.length ≤ (jn c ps).length
  | [], p, h => by simp at h
  | [q], p, h => by simp at h; subst h; simp [jn]
  | q :: r :: ps, p, h => by
    simp only [jn, List.length_append, List.length_cons]
    rcases List.mem_cons.1 h with rfl | h
    · omega
    · have := jn_len (c := c) h; omega
theorem spl_size {c : UInt8} {s p : ByteArray} (h : p ∈ spl c s) : p.size ≤ s.size := by
  have h1 := jn_len (c := c) (List.mem_map_of_mem (f := bl) h)
  rw [(spl_spec c s).2.1] at h1
  rw [Lib.size_eq, Lib.size_eq]; exact h1
theorem split_any (c : UInt8) (s : ByteArray) (w : World) (he : EnvJ w) (hs : s.size ≤ 65536) :
    Calls Tryz.prog 26 #[.string s, .string ⟨#[c]⟩] w fun e w' => ∃ g, e = .returned (.slice (some ⟨g, 0, none⟩) (spl c s).length (spl c s).length) ∧ RdStr w' w'.heap.size (some ⟨g, 0, none⟩) (spl c s).length (spl c s) ∧ Below w.heap.size w w' := by
  obtain ⟨m, hm⟩ := he.mx
  refine (Tryz.strings_Split s ⟨#[c]⟩ m w (by omega) hm (Nat.le_refl 1)).mono ?_
  rintro e w' ⟨he, rfl⟩
  refine ⟨w.heap.size, ?_, ?_, (Below.refl _ _).alloc (Nat.le_refl _) _⟩
  · rw [he, spl_count]
  · exact rdStr_lit (Blk.new _ _ _) (by simp)
theorem info_rule : (Tryz.prog.info? 39).map (fun i => (i.zero, i.size, i.bytes)) = some (some (.agg #[.string ⟨#[]⟩, .slice none 0 0]), 2, 40) := by kernel_rfl
theorem OwnS.keeps {S S' : Value → Prop} {w w' : World} {base base' e t size n : Nat} {v : Value} {xs : List Value} (h : OwnS S w base t size v n xs) (k : Keeps S' base' e w w') (ht : t ≠ e) : OwnS S w' base t size v n xs := by
  refine ⟨h.1, ?_⟩
  rcases h.2 with h1 | ⟨b, cap, cur, h1, h2, h3, h4⟩
  · exact .inl h1
  · exact .inr ⟨b, cap, cur, h1, h2, k.blk _ _ _ h3 ht, h4⟩
/-- rules that are owned -/
def OwnR (w : World) (base : Nat) (v : Value) (hs : List Rh) : Prop := OwnS AnyV w base 39 2 v hs.length (hs.flatMap Rh.cells) ∧ ∀ z ∈ hs, OwnN w base (.slice z.A z.n z.c) z.r.expr ∧ z.r.Fit
theorem OwnR.rd {w : World} {base : Nat} {v : Value} {hs : List Rh} (h : OwnR w base v hs) : ∃ A c, v = .slice A hs.length c ∧ RdRh w w.heap.size A hs.length hs ∧ hs.length ≤ c ∧ c ≤ maxLen := by
  obtain ⟨A, c, h1, h2, h3, h4, _⟩ := own_rd h.1.own
  refine ⟨A, c, h1, ⟨rfl, h2, fun z hz => ?_⟩, h3, h4⟩
  obtain ⟨A', c', e1, e2, e3, e4⟩ := OwnS.rdNd (h.2 z hz).1
  injection e1 with e1 e5 e6
  subst e1
  rw [e5]
  exact ⟨e2, by simp only [maxLen] at e4; omega⟩
/-- what a call of Parse hands back -/
def ParseE (s : ByteArray) (w : World) (e : Ending) (w' : World) : Prop :=
  Below w.heap.size w w' ∧ ∃ (A : Option Addr) (n c : Nat) (hs : List Rh), e = .returned (.tuple #[.slice A n c, .int .i64 (parseT NM s).line, .int .i64 (parseT NM s).err]) ∧ RdRh w' w'.heap.size A n hs ∧ rls hs = (parseT NM s).rules ∧ n ≤ c ∧ c ≤ maxLen ∧ ∀ z ∈ hs, z.r.Fit
theorem parseE_nil {s : ByteArray} {w w' : World} {k e : Int} (hb : Below w.heap.size w w') (h : parseT NM s = ⟨[], k, e⟩) : ParseE s w (.returned (.tuple #[.slice none 0 0, .int .i64 k, .int .i64 e])) w' := by
  refine ⟨hb, none, 0, 0, [], by rw [h], ⟨rfl, ⟨rfl, fun h => by omega⟩, fun z hz => by simp at hz⟩, by rw [h]; rfl, Nat.le_refl _, by simp [maxLen], fun z hz => by simp at hz⟩
set_option maxRecDepth 100000 in
set_option maxHeartbeats 8000000 in
theorem parse_any (s : ByteArray) (hmax : s.size ≤ 9223372036854775807) (w : World) (he : EnvJ w) :
    Calls Tryz.prog 10 #[.string s] w (ParseE s w) := by
  obtain ⟨iE, hiE, hE0, hE1, hE2⟩ := info_parts info_rule
  have HE := Lib.hid he
  clear he
  by_cases hbig : 8192 < s.size
  · have hbI : (8192 : Int) < (s.size : Int) := by omega
    have HP : Hid (parseT NM s = ⟨[], 0, 2⟩) := Lib.hid (by unfold parseT; rw [if_pos hbig])
    obtain ⟨Q, hQ⟩ : ∃ Q, Q = ParseE s w := ⟨_, rfl⟩
    rw [← hQ]
    have HQ := Lib.hid hQ
    clear hQ
    go_enter Tryz.func10, Tryz.ntmps10
    go_wp2_with fail
    go_ret3
    rw [HQ.out]
    exact parseE_nil (Below.refl _ _) HP.out
  have hsI : ¬ (8192 : Int) < (s.size : Int) := by omega
  cases hem : s.toList.isEmpty with
  | true =>
    have hs0 : s.size = 0 := by
      have h := List.isEmpty_iff.1 hem
      rw [ByteArray.toList_eq] at h
      rw [Lib.size_eq, h]; rfl
    have HP : Hid (parseT NM s = ⟨[], 0, 0⟩) := Lib.hid (by unfold parseT; rw [if_neg hbig, if_pos hs0])
    obtain ⟨Q, hQ⟩ : ∃ Q, Q = ParseE s w := ⟨_, rfl⟩
    rw [← hQ]
    have HQ := Lib.hid hQ
    clear hQ hs0
    go_enter Tryz.func10, Tryz.ntmps10
    go_wp2_with fail
    go_ret3
    rw [HQ.out]
    exact parseE_nil (Below.refl _ _) HP.out
  | false =>
  have HPT : Hid (parseT NM s = if endsNl (bbs s) = false then ⟨[], (linesOf s).length, 5⟩
  else if 16 < (linesOf s).length then ⟨[], 0, 2⟩
  else if (linesP NM (linesOf s) 0 []).err ≠ 0 then linesP NM (linesOf s) 0 []
  else if ckR (linesP NM (linesOf s) 0 []).rules ≠ 0 then ⟨[], 0, ckR (linesP NM (linesOf s) 0 []).rules⟩
  else linesP NM (linesOf s) 0 []) := Lib.hid (by
    have hs0 : ¬ s.size = 0 := fun h => by
      rw [ByteArray.toList_eq] at hem
      rw [Lib.size_eq] at h
      rw [List.length_eq_zero_iff.1 h] at hem
      cases hem
    unfold parseT
    rw [if_neg hbig, if_neg hs0])
  obtain ⟨Q, hQ⟩ : ∃ Q, Q = ParseE s w := ⟨_, rfl⟩
  rw [← hQ]
  have HQ := Lib.hid hQ
  have HLN : Hid (∀ p ∈ linesOf s, p.size ≤ 8192) := Lib.hid fun p hp => Nat.le_trans (spl_size hp) (Nat.le_trans (trim_len s) (by omega))
  have htl : (bsB (trimNl (bbs s))).size ≤ 65536 := Nat.le_trans (trim_len s) (by omega)
  have HLO : Hid (spl 10 (bsB (trimNl (bbs s))) = linesOf s) := Lib.hid rfl
  clear hQ
  go_enter Tryz.func10, Tryz.ntmps10
  go_wp2_with fail
  refine (Tryz.strings_TrimSuffix s ⟨#[10]⟩ w (by omega)).mono ?_
  rintro e w1 ⟨rfl, rfl⟩
  rw [trim_suf]
  go_wp2_with fail
  refine (split_any 10 (bsB (trimNl (bbs s))) _ HE.out htl).mono ?_
  rintro e w2 ⟨g, rfl, hrl, k2⟩
  rw [HLO.out] at hrl ⊢
  generalize linesOf s = ls at *
  have HB2 := Lib.hid k2
  have HE2 := Lib.hid (HE.out.up k2)
  have HRL := Lib.hid hrl
  clear k2 hrl HLO htl
  go_wp2_with fail
  refine (Tryz.strings_HasSuffix s ⟨#[10]⟩ w2 (by omega)).mono ?_
  rintro e w3 ⟨rfl, rfl⟩
  rw [show Lib.hasSuffix s.data.toList (⟨#[10]⟩ : ByteArray).data.toList = endsNl (bbs s) from has_suf _]
  cases hsf : endsNl (bbs s) with
  | false =>
    have HR : Hid (parseT NM s = ⟨[], ls.length, 5⟩) := Lib.hid (by rw [HPT.out, hsf, if_pos rfl])
    clear hsf
    go_wp2_with fail
    go_ret3
    rw [HQ.out]
    exact parseE_nil HB2.out HR.out
  | true =>
  by_cases hmany : 16 < ls.length
  · have HR : Hid (parseT NM s = ⟨[], 0, 2⟩) := Lib.hid (by rw [HPT.out, hsf, if_neg (by simp), if_pos hmany])
    have hmI : (16 : Int) < (ls.length : Int) := by omega
    clear hsf
    go_wp2_with fail
    go_ret3
    rw [HQ.out]
    exact parseE_nil HB2.out HR.out
  have hmI : ¬ (16 : Int) < (ls.length : Int) := by omega
  have HPT2 : Hid (parseT NM s = if (linesP NM ls 0 []).err ≠ 0 then linesP NM ls 0 [] else if ckR (linesP NM ls 0 []).rules ≠ 0 then ⟨[], 0, ckR (linesP NM ls 0 []).rules⟩ else linesP NM ls 0 []) := Lib.hid (by rw [HPT.out, hsf, if_neg (by simp), if_neg hmany])
  clear hsf HPT
  go_wp2_with fail
  go_loopw [6, 32] (fun vo iv wr => ∃ (i : Nat) (hs : List Rh), i ≤ ls.length ∧ iv = .int .i64 i ∧ hs.length = i ∧ linesP NM ls 0 [] = linesP NM (ls.drop i) i (rls hs) ∧ Below w3.heap.size w3 wr ∧ OwnS AnyV wr w3.heap.size 39 2 vo hs.length (hs.flatMap Rh.cells) ∧ ∀ z ∈ hs, OwnN wr w3.heap.size (.slice z.A z.n z.c) z.r.expr ∧ z.r.Fit) (fun _ iv _ => ls.length - (intOf iv).toNat)
  case atStart => exact ⟨0, [], by omega, rfl, rfl, rfl, Below.refl _ _, ownS_none _ _ _ _ _, fun z hz => by simp at hz⟩
  case round =>
    obtain ⟨i, hs, hi, rfl, hhl, hlp, hb, hown, hzs⟩ := hrel
    have HL := Lib.hid hhl
    have HLP := Lib.hid hlp
    have HB := Lib.hid hb
    have HOW := Lib.hid hown
    have HZS := Lib.hid hzs
    have HEr := Lib.hid (HE2.out.up hb)
    have hrr := HRL.out.below hb (Nat.le_refl _)
    clear hhl hlp hb hown hzs
    by_cases hlt : i < ls.length
    · obtain ⟨x, hx⟩ : ∃ x, ls[i]? = some x := ⟨_, List.getElem?_eq_getElem hlt⟩
      have hxs := HLN.out x (List.mem_of_getElem? hx)
      have c0 := hrr.at_ hx
      simp only [Nat.zero_add] at c0
      have hgl : g < w3.heap.size := by obtain ⟨b, o, e, h⟩ := hrr.form (by omega); injection e with e; injection e with e; subst e; exact h
      have HX := Lib.hid (drop_cons hx)
      have hiI : (i : Int) < (ls.length : Int) := by omega
      clear hx hrr
      go_wp2_with fail
      have hb4 : Below wr.heap.size wr (wr.alloc (.cells #[.string x, .bool false] 64)) := (Below.refl _ _).alloc (Nat.le_refl _) _
      have hp4 : Par (wr.alloc (.cells #[.string x, .bool false] 64)) wr.heap.size x false := Blk.new _ _ _
      obtain ⟨p, hpe⟩ : ∃ q, q = wr.heap.size := ⟨_, rfl⟩
      rw [← hpe] at hp4 ⊢
      generalize (wr.alloc (.cells #[.string x, .bool false] 64)) = w4 at *
      have HPE := Lib.hid hpe
      have HB4 := Lib.hid hb4
      have HP4 := Lib.hid hp4
      have HG4 : Hid (EnvG w4 p) := Lib.hid ⟨wr, HEr.out, hb4, by rw [hpe]; exact Nat.le_refl _⟩
      clear hb4 hp4 hpe c0
      refine (pname_any p x false w4 HP4.out hxs).mono ?_
      rintro e w5 ⟨rfl, hg5, hp5⟩
      have hz5 : (bsB ((bbs x).dropWhile wch)).size ≤ x.size := by
        have h1 := dropWhile_len (p := wch) (bbs x)
        show ((bbs x).dropWhile wch).length ≤ (bbs x).length
        omega
      have hst5 : Stg (false || !rnameB (bsB ((bbs x).takeWhile wch))) (ruleP NM (bbs x)) (match takeP (bbs ⟨#[32, 61, 32]⟩) (bbs (bsB ((bbs x).dropWhile wch))) with | none => none | some r => (match exprP NM 9000 r with | none => none | some u => if u.2 = [] then some ⟨bsB ((bbs x).takeWhile wch), u.1⟩ else none)) := by
        unfold ruleP nameP
        cases hrn : rnameB (bsB ((bbs x).takeWhile wch)) with
        | true => exact .inl ⟨rfl, by simp only [if_true]; rfl⟩
        | false => exact .inr ⟨rfl, by simp⟩
      generalize (false || !rnameB (bsB ((bbs x).takeWhile wch))) = b5 at *
      generalize bsB ((bbs x).takeWhile wch) = nm at *
      generalize bsB ((bbs x).dropWhile wch) = s5 at *
      have HG5 := Lib.hid hg5
      have HP5 := Lib.hid hp5
      have HZ5 : Hid (s5.size ≤ 8192) := Lib.hid (by omega)
      have HST5 := Lib.hid hst5
      have HE5 := Lib.hid (HG4.out.grown hg5)
      clear hg5 hp5 hz5 hst5 HG4
      go_wp2_with fail
      have hb6 : Below w5.heap.size w5 (w5.alloc (.cells #[.string nm, .slice none 0 0] 39)) := (Below.refl _ _).alloc (Nat.le_refl _) _
      have hr6 : Blk (w5.alloc (.cells #[.string nm, .slice none 0 0] 39)) w5.heap.size 39 #[.string nm, .slice none 0 0] := Blk.new _ _ _
      have hpq : p < w5.heap.size := HP5.out.lt
      obtain ⟨q, hqe⟩ : ∃ q, q = w5.heap.size := ⟨_, rfl⟩
      rw [← hqe] at hr6 hpq ⊢
      generalize (w5.alloc (.cells #[.string nm, .slice none 0 0] 39)) = w6 at *
      have HB6 : Hid (Below wr.heap.size wr w6) := Lib.hid ((below_only HB4.out HG5.out (by rw [HPE.out]; exact Nat.le_refl _) (Nat.le_refl _)).trans (hb6.mono (Nat.le_trans HB4.out.size HG5.out.size)))
      have HP6 := Lib.hid (HP5.out.below hb6 HP5.out.lt)
      have HR6 := Lib.hid hr6
      have HPQ := Lib.hid hpq
      have HE6 := Lib.hid (HE5.out.grown (only_of_below hb6 (some p)))
      clear hb6 hr6 hpq hqe HP5 HE5
      refine (need_any p s5 ⟨#[32, 61, 32]⟩ b5 w6 HP6.out HZ5.out).mono ?_
      rintro e w7 ⟨rfl, hg7, hne7⟩
      obtain ⟨s7, b7, hp7, hz7, hst7⟩ := HST5.out.need hne7
      have HB7 : Hid (Below wr.heap.size wr w7) := Lib.hid (below_only HB6.out hg7 (by rw [HPE.out]; exact Nat.le_refl _) (Nat.le_refl _))
      have HP7 := Lib.hid hp7
      have HR7 := Lib.hid (HR6.out.grown hg7 (by intro e; injection e with e; have := HPQ.out; omega))
      have HE7 := Lib.hid (HE6.out.grown hg7)
      have HZ7 : Hid (s7.size ≤ 8192) := Lib.hid (by have := HZ5.out; omega)
      have HST7 : Hid (Stg b7 (ruleP NM (bbs x)) (match exprP NM 9000 (bbs s7) with | none => none | some u => if u.2 = [] then some ⟨nm, u.1⟩ else none)) := Lib.hid hst7
      clear hg7 hne7 hp7 hz7 hst7
      go_wp2_with fail
      refine (expr_any 9000 p s7 b7 w7 HP7.out (by have := HZ7.out; omega) HZ7.out HE7.out).mono ?_
      rintro e w8 ⟨hg8, l8, v8, s8, b8, rfl, ho8, hp8, hs8, hl8, hc8⟩
      have hst8 : Stg b8 (ruleP NM (bbs x)) (if bbs s8 = [] then some ⟨nm, l8⟩ else none) := HST7.out.part hc8
      have HB8 : Hid (Below wr.heap.size wr w8) := Lib.hid (below_only HB7.out hg8 (by rw [HPE.out]; exact Nat.le_refl _) (Nat.le_refl _))
      have hr8 := HR7.out.grown hg8 (by intro e; injection e with e; have := HPQ.out; omega)
      have HWQ : Hid (q < w7.heap.size ∧ w3.heap.size ≤ wr.heap.size) := Lib.hid ⟨HR7.out.lt, HB.out.size⟩
      have HR8 := Lib.hid hr8
      have HP8 := Lib.hid hp8
      obtain ⟨A8, k8, rfl, _, _, _⟩ := OwnS.rdNd ho8
      have HO8 := Lib.hid ho8
      have HST8 := Lib.hid hst8
      have HL8 : Hid (l8.length ≤ 16385) := Lib.hid (by have := HZ7.out; omega)
      have d1 := hr8.cell 1
      have dl := hr8.lt
      have df := hr8.frozen
      clear hg8 hst8 hr8 hp8 ho8 hs8 hl8 hc8
      go_upto_region 18 with fail
      have hgq : w8.grownBy (w8.setCell ⟨q, 1, none⟩ (.slice A8 l8.length k8)) (some q) := only_set 1 _ (only_of_below (Below.refl _ _) _)
      have hr9 : Blk (w8.setCell ⟨q, 1, none⟩ (.slice A8 l8.length k8)) q 39 #[.string nm, .slice A8 l8.length k8] := Blk.set_at _ rfl HR8.out
      have hp9 : Par (w8.setCell ⟨q, 1, none⟩ (.slice A8 l8.length k8)) p s8 b8 := HP8.out.far (by have := HPQ.out; simp only; omega) _
      generalize w8.setCell ⟨q, 1, none⟩ (.slice A8 l8.length k8) = w9 at *
      have HB9 : Hid (Below wr.heap.size wr w9) := Lib.hid (below_only HB8.out hgq (by have := HPQ.out; have := HPE.out; omega) (Nat.le_refl _))
      have HO9 : Hid (OwnN w9 w3.heap.size (.slice A8 l8.length k8) l8) := Lib.hid ((OwnS.grown HO8.out hgq HWQ.out.1).base (Nat.le_trans HWQ.out.2 HB7.out.size))
      have HR9 := Lib.hid hr9
      have HP9 := Lib.hid hp9
      have a0 := hp9.cell 0
      have a1 := hp9.cell 1
      have al := hp9.lt
      have af := hp9.frozen
      have e0 := hr9.cell 0
      have e1 := hr9.cell 1
      have el := hr9.lt
      have ef := hr9.frozen
      have hi16 : i < 16 := by omega
      clear hgq hr9 hp9 HO8 HP8 HR8 d1 dl df HB8 HP7 HR7 HE7 HP6 HR6 HE6
      have HBAD : Hid (ruleP NM (bbs x) = none → parseT NM s = ⟨[], ((i : Int) + 1), 5⟩) := Lib.hid fun h => by
        have h1 : linesP NM ls 0 [] = ⟨[], ((i : Int) + 1), 5⟩ := by rw [HLP.out, HX.out]; simp only [linesP, h]
        rw [HPT2.out, h1]; rfl
      cases b8 with
      | true =>
        have HN : Hid (ruleP NM (bbs x) = none) := Lib.hid (by
          rcases HST8.out with ⟨h, _⟩ | ⟨_, h⟩
          · cases h
          · exact h)
        go_wp2_with fail
        go_ret3
        rw [HQ.out]
        exact parseE_nil (HB2.out.trans ((HB.out.trans (HB9.out.mono HB.out.size)).mono HB2.out.size)) (HBAD.out HN.out)
      | false =>
        have HST9 : Hid (ruleP NM (bbs x) = if bbs s8 = [] then some ⟨nm, l8⟩ else none) := Lib.hid (by
          rcases HST8.out with ⟨_, h⟩ | ⟨h, _⟩
          · exact h
          · cases h)
        cases he8 : s8.toList.isEmpty with
        | false =>
          have HN : Hid (ruleP NM (bbs x) = none) := Lib.hid (by
            rw [HST9.out, if_neg (fun h => by rw [ByteArray.toList_eq, show s8.data.toList = [] from h] at he8; cases he8)])
          go_wp2_with fail
          go_ret3
          rw [HQ.out]
          exact parseE_nil (HB2.out.trans ((HB.out.trans (HB9.out.mono HB.out.size)).mono HB2.out.size)) (HBAD.out HN.out)
        | true =>
          have HN : Hid (ruleP NM (bbs x) = some ⟨nm, l8⟩) := Lib.hid (by
            have h := List.isEmpty_iff.1 he8
            rw [ByteArray.toList_eq] at h
            rw [HST9.out, if_pos (show bbs s8 = [] from h)])
          by_cases h64 : 64 < l8.length
          · have h64I : (64 : Int) < (l8.length : Int) := by omega
            have HR2 : Hid (parseT NM s = ⟨[], ((i : Int) + 1), 2⟩) := Lib.hid (by
              have h1 : linesP NM ls 0 [] = ⟨[], ((i : Int) + 1), 2⟩ := by rw [HLP.out, HX.out]; simp only [linesP, HN.out]; rw [if_pos h64]
              rw [HPT2.out, h1]; rfl)
            go_wp2_with fail
            go_ret3
            rw [HQ.out]
            exact parseE_nil (HB2.out.trans ((HB.out.trans (HB9.out.mono HB.out.size)).mono HB2.out.size)) HR2.out
          · have h64I : ¬ (64 : Int) < (l8.length : Int) := by omega
            have HFT := Lib.hid (ruleP_fit HN.out hxs)
            have HL2 : Hid (linesP NM ls 0 [] = linesP NM (ls.drop (i + 1)) (i + 1) (rls hs ++ [⟨nm, l8⟩])) := Lib.hid (by
              rw [HLP.out, HX.out]; simp only [linesP, HN.out]; rw [if_neg h64])
            have HOW9 := Lib.hid (HOW.out.keep HB9.out)
            have HSZ := Lib.hid (Nat.le_trans HB.out.size HB9.out.size)
            have HHL : Hid (hs.length + 1 ≤ 100000) := Lib.hid (by have := HL.out; omega)
            go_wp2_with (at_builtin; refine wpList_appS (S := AnyV) (lit := #[.string nm, .slice A8 l8.length k8]) (T := 39) rfl _ _ 22 rfl w3.heap.size 39 iE _ 2 40 Tryz.underlying22 hiE hE0 hE1 hE2 rfl (by omega) (fun _ _ => trivial) _ _ _ rfl HOW9.out rfl rfl (fun u hu => ⟨by simp at hu; rcases hu with rfl | rfl <;> rfl, trivial⟩) (by have := HHL.out; simp only [maxLen]; omega) (by have := HHL.out; omega) HSZ.out ?_)
            intro v10 w10 ho10 kp10 _
            have HB10 : Hid (Below w3.heap.size w3 w10) := Lib.hid ((HB.out.trans (HB9.out.mono HB.out.size)).trans ((((Below.refl _ _).alloc (Nat.le_refl _) _).mono HSZ.out).trans kp10.low))
            have HO10 : Hid (OwnS AnyV w10 w3.heap.size 39 2 v10 (hs ++ [(⟨⟨nm, l8⟩, A8, l8.length, k8⟩ : Rh)]).length ((hs ++ [(⟨⟨nm, l8⟩, A8, l8.length, k8⟩ : Rh)]).flatMap Rh.cells)) := Lib.hid (by
              rw [List.length_append, List.flatMap_append]
              exact ho10)
            have HZ10 : Hid (∀ z ∈ hs ++ [(⟨⟨nm, l8⟩, A8, l8.length, k8⟩ : Rh)], OwnN w10 w3.heap.size (.slice z.A z.n z.c) z.r.expr ∧ z.r.Fit) := Lib.hid fun z hz => by
              rcases List.mem_append.1 hz with hz | hz
              · obtain ⟨z1, z2⟩ := HZS.out z hz
                exact ⟨((OwnS.keep z1 HB9.out).keep ((Below.refl _ _).alloc (Nat.le_refl _) _)).keeps kp10 (by decide), z2⟩
              · rw [List.mem_singleton] at hz
                subst hz
                exact ⟨(OwnS.keep HO9.out ((Below.refl _ _).alloc (Nat.le_refl _) _)).keeps kp10 (by decide), HFT.out⟩
            have HL3 : Hid (linesP NM ls 0 [] = linesP NM (ls.drop (i + 1)) (i + 1) (rls (hs ++ [(⟨⟨nm, l8⟩, A8, l8.length, k8⟩ : Rh)]))) := Lib.hid (by rw [HL2.out]; unfold rls; rw [List.map_append]; rfl)
            clear ho10 kp10
            go_wp2_with fail
            go_roundw
            case rel => exact ⟨i + 1, _, hlt, by go_num, by rw [List.length_append, HL.out]; rfl, HL3.out, HB10.out, HO10.out, HZ10.out⟩
            case measure => simp [intOf]; omega
    · have hd : ls.drop i = [] := by rw [List.drop_eq_nil_iff]; omega
      have HLE : Hid (linesP NM ls 0 [] = ⟨rls hs, 0, 0⟩) := Lib.hid (by rw [HLP.out, hd]; rfl)
      have HPT3 : Hid (parseT NM s = if ckR (rls hs) ≠ 0 then ⟨[], 0, ckR (rls hs)⟩ else ⟨rls hs, 0, 0⟩) := Lib.hid (by rw [HPT2.out, HLE.out, if_neg (by simp)])
      have hi16 : i ≤ 16 := by omega
      obtain ⟨A9, k9, rfl, hrd9, hk9, hk9m⟩ := OwnR.rd (w := wr) (base := w3.heap.size) ⟨HOW.out, HZS.out⟩
      have HRD9 := Lib.hid hrd9
      have HK9 := Lib.hid (And.intro hk9 hk9m)
      have HFT : Hid (∀ z ∈ hs, z.r.Fit) := Lib.hid fun z hz => (HZS.out z hz).2
      clear hd hrd9 hk9 hk9m HLP HLE HOW HZS
      go_wp2_with fail
      refine (rcheck_any A9 hs.length k9 hs wr HRD9.out HK9.out.1 HK9.out.2 HFT.out).mono ?_
      rintro e w5 ⟨rfl, k5⟩
      have HB5 := Lib.hid (HB2.out.trans ((HB.out.trans (k5.mono HB.out.size)).mono HB2.out.size))
      have HRD5 := Lib.hid (HRD9.out.up k5)
      clear k5
      generalize hck : ckR (rls hs) = ck at *
      by_cases h0 : ck = 0
      · subst h0
        have HR2 : Hid (parseT NM s = ⟨rls hs, 0, 0⟩) := Lib.hid (by rw [HPT3.out, if_neg (by simp)])
        clear hck
        go_wp2_with fail
        go_ret3
        rw [HQ.out]
        exact ⟨HB5.out, A9, hs.length, k9, hs, by rw [HR2.out]; rfl, HRD5.out, by rw [HR2.out], HK9.out.1, HK9.out.2, HFT.out⟩
      · have HR2 : Hid (parseT NM s = ⟨[], 0, ck⟩) := Lib.hid (by rw [HPT3.out, if_pos h0])
        have h0b : (ck != 0) = true := by simpa using h0
        clear hck h0
        go_wp2_with fail
        go_ret3
        rw [HQ.out]
        exact parseE_nil HB5.out HR2.out
end Go.Proofs.YtaanoljfhnfjoaaGreatDoor
