/- journal.Parse: the walk. -/
import Derived.Test.YtmmkkkakbbidjaaDoorJT
import Derived.Test.YtmmkkkakbbidjaaDoorJM
namespace Go.Proofs.YtmmkkkakbbidjaaDoor
open Go.ChangeShapes Go.WideShapes Go.ChangeAt Go.RowKit
set_option linter.unusedVariables false
attribute [local go_sem ↓] execOp_call_val
attribute [local go_sem] callVal_func setCell_drewN alloc_drewN sEq_walk

theorem jn_len {c : UInt8} : ∀ {ps : List (List UInt8)} {p : List UInt8}, p ∈ ps → p.length ≤ (jn c ps).length
  | [], p, h => by simp at h
  | [q], p, h => by simp at h; subst h; simp [jn]
  | q :: r :: ps, p, h => by
    simp only [jn, List.length_append, List.length_cons]
    rcases List.mem_cons.1 h with rfl | h
    · omega
    · have := jn_len (c := c) h; omega
theorem spl_size {c : UInt8} {s p : ByteArray} (h : p ∈ spl c s) : p.size ≤ s.size := by
  have h1 := jn_len (c := c) (List.mem_map_of_mem (f := bl) h)
  rw [(spl_spec c s).2.1] at h1
  rw [Lib.size_eq, Lib.size_eq]; exact h1
theorem trim_size (s : ByteArray) : (trimNl s).size ≤ s.size := by
  rw [Lib.size_eq, Lib.size_eq]
  have : (trimNl s).data.toList = Lib.trimSuffix s.data.toList [10] := bl_trimNl s
  rw [this]
  unfold Lib.trimSuffix
  split
  · rw [List.length_take]; omega
  · exact Nat.le_refl _
theorem split_any (c : UInt8) (s : ByteArray) (w : World) (he : EnvJ w) (hs : s.size ≤ 65536) :
    Calls Tryd.prog 24 #[.string s, .string ⟨#[c]⟩] w fun e w' => ∃ g, e = .returned (.slice (some ⟨g, 0, none⟩) (spl c s).length (spl c s).length) ∧ RdStr w' w'.heap.size (some ⟨g, 0, none⟩) (spl c s).length (spl c s) ∧ Below w.heap.size w w' := by
  obtain ⟨m, hm⟩ := he.mx
  refine (Tryd.strings_Split s ⟨#[c]⟩ m w (by omega) hm (Nat.le_refl 1)).mono ?_
  rintro e w' ⟨he, rfl⟩
  refine ⟨w.heap.size, ?_, ?_, (Below.refl _ _).alloc (Nat.le_refl _) _⟩
  · rw [he, spl_count]
  · exact rdStr_lit (Blk.new _ _ _) (by simp)
def ParseP (s : ByteArray) (w : World) (e : Ending) (w' : World) : Prop :=
  Below w.heap.size w w' ∧ ((∃ l v, goodP s l ∧ e = .returned (.tuple #[v, .int .i64 0, .int .i64 0]) ∧ w'.ownsRow w.heap.size 31 4 v l.length (l.flatMap Ev.cells)) ∨
    ((∀ l, ¬ goodP s l) ∧ ∃ k c : Int, 0 ≤ k ∧ c ≠ 0 ∧ e = .returned (.tuple #[.slice none 0 0, .int .i64 k, .int .i64 c])))
set_option maxRecDepth 100000 in
set_option maxHeartbeats 8000000 in
theorem parse_any (s : ByteArray) (hmax : s.size ≤ 9223372036854775807) (w : World) (he : EnvJ w) :
    Calls Tryd.prog 16 #[.string s] w (ParseP s w) := by
  obtain ⟨iE, hiE, hE0, hE1, hE2⟩ := info_parts info_ev
  have HE := Lib.hid he
  have HP : Hid (∀ e w', ParseP s w e w' = (Below w.heap.size w w' ∧ ((∃ l v, goodP s l ∧ e = .returned (.tuple #[v, .int .i64 0, .int .i64 0]) ∧ w'.ownsRow w.heap.size 31 4 v l.length (l.flatMap Ev.cells)) ∨
    ((∀ l, ¬ goodP s l) ∧ ∃ k c : Int, 0 ≤ k ∧ c ≠ 0 ∧ e = .returned (.tuple #[.slice none 0 0, .int .i64 k, .int .i64 c]))))) := Lib.hid fun _ _ => rfl
  clear he
  by_cases hbig : 65536 < s.size
  · have hbI : (65536 : Int) < (s.size : Int) := by omega
    go_enter Tryd.func16, Tryd.ntmps16
    go_wp2_with fail
    go_ret3
    rw [HP.out]
    exact ⟨Below.refl _ _, .inr ⟨fun l h => by have := h.1; omega, 0, 2, by omega, by omega, rfl⟩⟩
  have hsI : ¬ (65536 : Int) < (s.size : Int) := by omega
  cases hem : s.toList.isEmpty with
  | true =>
    have hs0 : bl s = [] := by
      have h := List.isEmpty_iff.1 hem
      rw [ByteArray.toList_eq] at h
      exact h
    have HS0 := Lib.hid hs0
    have hle : s.size ≤ 65536 := by omega
    clear hs0
    go_enter Tryd.func16, Tryd.ntmps16
    go_wp2_with fail
    go_ret3
    rw [HP.out]
    exact ⟨Below.refl _ _, .inl ⟨[], _, ⟨hle, .inl ⟨HS0.out, rfl⟩⟩, rfl, World.ownsRow_nil _ _ _ _⟩⟩
  | false =>
  have HNE : Hid (bl s ≠ []) := Lib.hid fun h => by
    rw [ByteArray.toList_eq, show s.data.toList = [] from h] at hem
    simp at hem
  go_enter Tryd.func16, Tryd.ntmps16
  go_wp2_with fail
  refine (Tryd.strings_TrimSuffix s ⟨#[10]⟩ w (by omega)).mono ?_
  rintro e w1 ⟨rfl, rfl⟩
  rw [show (⟨(Lib.trimSuffix s.data.toList (⟨#[10]⟩ : ByteArray).data.toList).toArray⟩ : ByteArray) = trimNl s from rfl]
  have hts : (trimNl s).size ≤ 65536 := Nat.le_trans (trim_size s) (by omega)
  go_wp2_with fail
  refine (split_any 10 (trimNl s) _ HE.out hts).mono ?_
  rintro e w2 ⟨g, rfl, hrl, k2⟩
  rw [show spl 10 (trimNl s) = lns s from rfl] at hrl ⊢
  have HB2 := Lib.hid k2
  have HE2 := Lib.hid (HE.out.up k2)
  have HRL := Lib.hid hrl
  have HLS : Hid (∀ p ∈ lns s, p.size ≤ 65536) := Lib.hid fun p hp => Nat.le_trans (spl_size hp) hts
  clear k2 hrl
  go_wp2_with fail
  refine (Tryd.strings_HasSuffix s ⟨#[10]⟩ w2 (by omega)).mono ?_
  rintro e w3 ⟨rfl, rfl⟩
  rw [show Lib.hasSuffix s.data.toList (⟨#[10]⟩ : ByteArray).data.toList = Lib.hasSuffix (bl s) [10] from rfl]
  cases hsf : Lib.hasSuffix (bl s) [10] with
  | false =>
    have HSF := Lib.hid hsf
    clear hsf
    go_wp2_with fail
    go_ret3
    rw [HP.out]
    refine ⟨HB2.out, .inr ⟨fun l h => ?_, _, 5, by omega, by omega, rfl⟩⟩
    rcases h.2 with ⟨h1, _⟩ | ⟨_, h1, _⟩
    · exact HNE.out h1
    · rw [HSF.out] at h1; cases h1
  | true =>
  have HSF := Lib.hid hsf
  clear hsf
  by_cases hmany : 256 < (lns s).length
  · have hmI : (256 : Int) < ((lns s).length : Int) := by omega
    go_wp2_with fail
    go_ret3
    rw [HP.out]
    refine ⟨HB2.out, .inr ⟨fun l h => ?_, 0, 2, by omega, by omega, rfl⟩⟩
    rcases h.2 with ⟨h1, _⟩ | ⟨_, _, h1, _⟩
    · exact HNE.out h1
    · omega
  have hmI : ¬ (256 : Int) < ((lns s).length : Int) := by omega
  have hb2 := HB2.out.size
  have HG : Hid (∀ l, goodP s l → linesAre (lns s) l) := Lib.hid fun l h => by
    rcases h.2 with ⟨h1, _⟩ | ⟨_, _, _, h1⟩
    · exact absurd h1 HNE.out
    · exact h1
  have HG2 : Hid (∀ l, linesAre (lns s) l → goodP s l) := Lib.hid fun l h => ⟨by omega, .inr ⟨HNE.out, HSF.out, by omega, h⟩⟩
  generalize lns s = ls at *
  go_wp2_with fail
  go_loopw [6, 36] (fun vo iv wr => ∃ (i : Nat) (l : List Ev), i ≤ ls.length ∧ iv = .int .i64 i ∧ l.length = i ∧ (∀ (j : Nat) (s : ByteArray) (x : Ev), ls[j]? = some s → l[j]? = some x → lineIs s x) ∧ Below w3.heap.size w3 wr ∧ wr.ownsRow w3.heap.size 31 4 vo l.length (l.flatMap Ev.cells)) (fun _ iv _ => ls.length - (intOf iv).toNat)
  case atStart => exact ⟨0, [], by omega, rfl, rfl, fun j s x _ h => by simp at h, Below.refl _ _, World.ownsRow_nil _ _ _ _⟩
  case round =>
    obtain ⟨i, l, hi, rfl, hll, hls, hb, hown⟩ := hrel
    have HL := Lib.hid hll
    have HIS := Lib.hid hls
    have HB := Lib.hid hb
    have HOW := Lib.hid hown
    have HEr := Lib.hid (HE2.out.up hb)
    have hrr := HRL.out.below hb (Nat.le_refl _)
    clear hll hls hb hown
    by_cases hlt : i < ls.length
    · obtain ⟨x, hx⟩ : ∃ x, ls[i]? = some x := ⟨_, List.getElem?_eq_getElem hlt⟩
      have hxs := HLS.out x (List.mem_of_getElem? hx)
      have c0 := hrr.at_ hx
      simp only [Nat.zero_add] at c0
      have hgl : g < w3.heap.size := by obtain ⟨b, o, e, h⟩ := hrr.form (by omega); injection e with e; injection e with e; subst e; exact h
      have HX := Lib.hid hx
      have HNG : Hid (∀ l, goodP s l → ∃ y, lineIs x y) := Lib.hid fun l h => by
        have h1 := HG.out l h
        exact ⟨_, h1.2 i x _ HX.out (List.getElem?_eq_getElem (by rw [← h1.1]; exact hlt))⟩
      have hiI : (i : Int) < (ls.length : Int) := by omega
      clear hx hrr
      go_wp2_with fail
      refine (split_any 32 x _ HEr.out hxs).mono ?_
      rintro e w4 ⟨g4, rfl, hr4, k4⟩
      have HB4 := Lib.hid (HB.out.trans (k4.mono HB.out.size))
      have HE4 := Lib.hid (HEr.out.up k4)
      have HOW4 := Lib.hid (own_up HOW.out k4)
      have HPS : Hid (∀ p ∈ spl 32 x, p.size ≤ 65536) := Lib.hid fun p hp => Nat.le_trans (spl_size hp) hxs
      clear k4 c0
      by_cases h4 : (spl 32 x).length = 4
      · obtain ⟨p0, p1, p2, p3, hsp⟩ : ∃ p0 p1 p2 p3, spl 32 x = [p0, p1, p2, p3] := by
          match hq : spl 32 x, h4 with
          | [a, b, c, d], _ => exact ⟨a, b, c, d, rfl⟩
        have HSP := Lib.hid hsp
        rw [hsp] at hr4 HPS ⊢
        have d0 := hr4.at_ (i := 0) (x := p0) rfl
        have d1 := hr4.at_ (i := 1) (x := p1) rfl
        have d2 := hr4.at_ (i := 2) (x := p2) rfl
        have d3 := hr4.at_ (i := 3) (x := p3) rfl
        simp only [Nat.zero_add] at d0 d1 d2 d3
        have hg4 := (cell_lt d0).1
        have hp0 := HPS.out p0 (by simp)
        have hp1 := HPS.out p1 (by simp)
        have hp2 := HPS.out p2 (by simp)
        have hp3 := HPS.out p3 (by simp)
        clear h4 hsp hr4
        go_wp2_with fail
        refine (number_any p0 (by omega) _ HE4.out).mono ?_
        rintro e w5 ⟨k5, t, ba, rfl, hta⟩
        have HB5 := Lib.hid (HB4.out.trans (k5.mono HB4.out.size))
        have HE5 := Lib.hid (HE4.out.up k5)
        have HOW5 := Lib.hid (own_up HOW4.out k5)
        have HTA := Lib.hid hta
        have hg5 := Nat.lt_of_lt_of_le hg4 k5.size
        replace d1 := (k5.cell (p := ⟨g4, 1, none⟩) hg4).trans d1
        replace d2 := (k5.cell (p := ⟨g4, 2, none⟩) hg4).trans d2
        replace d3 := (k5.cell (p := ⟨g4, 3, none⟩) hg4).trans d3
        clear k5 hta d0 hg4
        go_wp2_with fail
        refine (number_any p3 (by omega) _ HE5.out).mono ?_
        rintro e w6 ⟨k6, v, bb, rfl, hvb⟩
        have HB6 := Lib.hid (HB5.out.trans (k6.mono HB5.out.size))
        have HOW6 := Lib.hid (own_up HOW5.out k6)
        have HVB := Lib.hid hvb
        have hg6 := Nat.lt_of_lt_of_le hg5 k6.size
        replace d1 := (k6.cell (p := ⟨g4, 1, none⟩) hg5).trans d1
        replace d2 := (k6.cell (p := ⟨g4, 2, none⟩) hg5).trans d2
        clear k6 hvb d3 hg5
        have HNG2 : Hid (ba = false ∨ bb = false → ∀ l, ¬ goodP s l) := Lib.hid fun hab l h => by
          obtain ⟨y, q0, q3, e1, e2, e3, _⟩ := HNG.out l h
          rw [HSP.out] at e1
          simp only [List.cons.injEq, and_true] at e1
          obtain ⟨e4, _, _, e5⟩ := e1
          subst e4; subst e5
          rcases hab with hab | hab
          · rcases HTA.out with ⟨h1, _⟩ | ⟨_, h1⟩
            · rw [hab] at h1; cases h1
            · rw [e2] at h1; cases h1
          · rcases HVB.out with ⟨h1, _⟩ | ⟨_, h1⟩
            · rw [hab] at h1; cases h1
            · rw [e3] at h1; cases h1
        cases ba with
        | false =>
          go_wp2_with fail
          go_ret3
          rw [HP.out]
          exact ⟨HB2.out.trans (HB6.out.mono hb2), .inr ⟨HNG2.out (by simp), _, 5, by omega, by omega, rfl⟩⟩
        | true =>
        cases bb with
        | false =>
          go_wp2_with fail
          go_ret3
          rw [HP.out]
          exact ⟨HB2.out.trans (HB6.out.mono hb2), .inr ⟨HNG2.out (by simp), _, 5, by omega, by omega, rfl⟩⟩
        | true =>
        have HT1 : Hid (numF p0 = some t) := Lib.hid (HTA.out.elim (fun h => h.2) (fun h => by cases h.1))
        have HV1 : Hid (numF p3 = some v) := Lib.hid (HVB.out.elim (fun h => h.2) (fun h => by cases h.1))
        clear HTA HVB HNG2
        obtain ⟨z, rfl, rfl, rfl, rfl⟩ : ∃ z : Ev, z.time = t ∧ z.kind = p1 ∧ z.name = p2 ∧ z.value = v := ⟨⟨t, p1, p2, v⟩, rfl, rfl, rfl, rfl⟩
        have HZ : Hid (∀ l, goodP s l → evCk z = 0) := Lib.hid fun l h => by
          obtain ⟨y, q0, q3, e1, e2, e3, e6⟩ := HNG.out l h
          rw [HSP.out] at e1
          simp only [List.cons.injEq, and_true] at e1
          obtain ⟨e4, e7, e8, e5⟩ := e1
          subst e4; subst e5
          rw [HT1.out] at e2; rw [HV1.out] at e3
          injection e2 with e2; injection e3 with e3
          rw [show z = y from by cases z; cases y; simp_all]
          exact e6
        have hfit : z.Fit := ⟨by simp only [maxLen]; omega, by simp only [maxLen]; omega⟩
        go_wp2_with fail
        go_region
        have HBW : Hid (Below w3.heap.size w3 (w6.alloc (.cells #[.int .i64 z.time, .string z.kind, .string z.name, .int .i64 z.value] 31)).drew) := Lib.hid (below_drewN (HB6.out.alloc HB6.out.size _) 1)
        have HOWW : Hid ((w6.alloc (.cells #[.int .i64 z.time, .string z.kind, .string z.name, .int .i64 z.value] 31)).drew.ownsRow w3.heap.size 31 4 u6 l.length (l.flatMap Ev.cells)) := Lib.hid (own_up (HOW6.out.alloc _) (below_drewN (Below.refl _ _) 1))
        have HQ : Hid (Blk (w6.alloc (.cells #[.int .i64 z.time, .string z.kind, .string z.name, .int .i64 z.value] 31)).drew w6.heap.size 31 #[.int .i64 z.time, .string z.kind, .string z.name, .int .i64 z.value]) := Lib.hid (Blk.new _ _ _).drew
        generalize hW : (w6.alloc (.cells #[.int .i64 z.time, .string z.kind, .string z.name, .int .i64 z.value] 31)).drew = W at *
        have HW := Lib.hid hW
        obtain ⟨z0, z1, z2, z3, zf, zlt⟩ := Ev.box HQ.out
        clear hW d1 d2
        go_wp2_with fail
        refine (event_any z hfit W).mono ?_
        rintro e w7 ⟨rfl, k7⟩
        have HB7 := Lib.hid (HBW.out.trans (k7.mono HBW.out.size))
        have HOW7 := Lib.hid (own_up HOWW.out k7)
        replace z0 := (k7.cell zlt).trans z0
        replace z1 := (k7.cell zlt).trans z1
        replace z2 := (k7.cell zlt).trans z2
        replace z3 := (k7.cell zlt).trans z3
        clear k7 zf zlt
        by_cases hck : evCk z = 0
        · have HCK := Lib.hid hck
          have HLI : Hid (lineIs x z) := Lib.hid ⟨p0, p3, HSP.out, HT1.out, HV1.out, hck⟩
          rw [hck]
          have hl256 : l.length ≤ 256 := by rw [HL.out]; omega
          clear hck
          go_wp2_with (at_builtin; refine wpList_append_own _ rfl (.tmp 86) (.tmp 88) _ rfl w3.heap.size 31 iE _ 4 48 Tryd.underlying22 hiE hE0 hE1 hE2 rfl (by omega) u6 l.length (l.flatMap Ev.cells) rfl (HOW7.out.alloc _) ⟨w7.heap.size, 0, none⟩ 1 1 z.cells rfl rfl ?j0 ?j1 ?j2 ?j3 ?j4 ?_)
          case j0 => intro j u hu; rw [Addr.add_lit, Nat.zero_add, (Blk.new w7 _ _).cell j]; simpa [Ev.cells] using hu
          case j1 => intro u hu; simp [Ev.cells] at hu; rcases hu with rfl | rfl | rfl | rfl <;> rfl
          case j2 => simp only [maxLen]; omega
          case j3 => omega
          case j4 => have := HB7.out.size; simp; omega
          intro v5 w8 hown8 hgr8 hnil8
          have hb8 : Below w3.heap.size w3 w8 := (HB7.out.alloc HB7.out.size _).grown hgr8 (by have := HB7.out.size; simp; omega) (fun k hk => (HOW7.out.lt k hk).1)
          have HB8 := Lib.hid hb8
          have HO8 : Hid (w8.ownsRow w3.heap.size 31 4 v5 (l ++ [z]).length ((l ++ [z]).flatMap Ev.cells)) := Lib.hid (by rw [List.length_append, List.flatMap_append]; simpa using hown8)
          have HIS8 : Hid (∀ (j : Nat) (s : ByteArray) (y : Ev), ls[j]? = some s → (l ++ [z])[j]? = some y → lineIs s y) := Lib.hid fun j s y h1 h2 => by
            by_cases hj : j < l.length
            · rw [List.getElem?_append_left hj] at h2; exact HIS.out j s y h1 h2
            · have hj2 : j = i := by have := (List.getElem?_eq_some_iff.1 h2).1; simp at this; have := HL.out; omega
              subst hj2
              rw [HX.out] at h1
              injection h1 with h1
              subst h1
              rw [List.getElem?_append_right (by omega), HL.out] at h2
              simp at h2
              subst h2
              exact HLI.out
          clear hb8 hown8 hgr8 hnil8
          go_wp2_with fail
          go_roundw
          case rel => exact ⟨i + 1, l ++ [z], by omega, by go_num, by rw [List.length_append, HL.out]; rfl, HIS8.out, HB8.out, HO8.out⟩
          case measure => simp [intOf]; omega
        · have HNO : Hid (∀ l, ¬ goodP s l) := Lib.hid fun l h => hck (HZ.out l h)
          have HCN := Lib.hid hck
          have hcb : (evCk z != 0) = true := by simpa using hck
          clear hck
          generalize evCk z = ec at *
          go_wp2_with fail
          go_ret3
          rw [HP.out]
          exact ⟨HB2.out.trans (HB7.out.mono hb2), .inr ⟨HNO.out, _, ec, by omega, HCN.out, rfl⟩⟩
      · have h4I : (((spl 32 x).length : Int) != 4) = true := by simp; omega
        have HLN : Hid (∀ l, ¬ goodP s l) := Lib.hid fun l h => by
          obtain ⟨y, q0, q3, e1, _⟩ := HNG.out l h
          exact h4 (by rw [e1]; rfl)
        clear h4 hr4
        go_wp2_with fail
        go_ret3
        rw [HP.out]
        exact ⟨HB2.out.trans (HB4.out.mono hb2), .inr ⟨HLN.out, _, 5, by omega, by omega, rfl⟩⟩
    · have hil : i = ls.length := by omega
      subst hil
      clear hrr
      have hll := HL.out
      go_wp2_with fail
      go_ret3
      rw [HP.out]
      exact ⟨HB2.out.trans (HB.out.mono hb2), .inl ⟨l, _, HG2.out l ⟨HL.out.symm, HIS.out⟩, rfl, own_mono HOW.out hb2⟩⟩
end Go.Proofs.YtmmkkkakbbidjaaDoor
