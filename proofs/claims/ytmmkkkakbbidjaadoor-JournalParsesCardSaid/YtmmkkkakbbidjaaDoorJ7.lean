/- The text of events: journal.Print. -/
import Derived.Test.YtmmkkkakbbidjaaDoorJ6
import Derived.Lib.ItoaLen
import Derived.Lib.AppendIntMem
import Derived.Lib.SmallJoins
import Derived.Laws.Concat
import Derived.Deep.RegionHeld
import Derived.Deep.DeepCutAuto
namespace Go.Proofs.YtmmkkkakbbidjaaDoor
open Go.ChangeShapes Go.WideShapes Go.ChangeAt Go.RowKit Go.Joins Go.Deep
set_option linter.unusedVariables false
attribute [local go_sem ↓] execOp_call_val
attribute [local go_sem] callVal_func setCell_drewN alloc_drewN sEq_walk

def TabOk (w : World) : Prop := Lib.TabIs Tryd.prog w "internal/strconv.uint64pow10" .u64 Lib.pow10Tab
theorem TabOk.up {w w' : World} (h : TabOk w) (hb : Below w.heap.size w w') : TabOk w' := tab_stays (show Tryd.prog.globalNamed "internal/strconv.uint64pow10" = some 0 by kernel_rfl) h hb (Nat.le_refl _)
def itoaB (n : Int) : ByteArray := ⟨(Lib.itoa n).toArray⟩
theorem itoa_any (n : Int) (h0 : -9223372036854775808 ≤ n) (h1 : n ≤ 9223372036854775807) (w : World) (ht : TabOk w) :
    Calls Tryd.prog 22 #[.int .i64 n] w fun e w' => e = .returned (.string (itoaB n)) ∧ Below w.heap.size w w' :=
  (Tryd.strconv_Itoa n h0 h1 w ht).mono fun e w' ⟨he, k, os, hw⟩ => ⟨he, by rw [hw]; exact Lib.below_grow w.heap.size w (Nat.le_refl _) k os⟩
theorem itoaB_size (n : Int) (h0 : -9223372036854775808 ≤ n) (h1 : n ≤ 9223372036854775807) : (itoaB n).size ≤ 21 := by
  have := Lib.itoa_length_le n h0 h1
  simpa [itoaB, ByteArray.size] using this

def lineB (z : Ev) : ByteArray := itoaB z.time ++ ⟨#[32]⟩ ++ z.kind ++ ⟨#[32]⟩ ++ z.name ++ ⟨#[32]⟩ ++ itoaB z.value ++ ⟨#[10]⟩
def prtGo : ByteArray → List Ev → ByteArray
  | acc, [] => acc
  | acc, z :: r => prtGo (acc ++ lineB z) r
def prtB (l : List Ev) : ByteArray := prtGo ⟨#[]⟩ l
theorem nameB_size {s : ByteArray} (h : nameB s = true) : 1 ≤ s.size ∧ s.size ≤ 8 := by
  unfold nameB at h
  rw [Bool.and_eq_true, decide_eq_true_eq] at h
  exact h.2
theorem ckGo_all : ∀ {l : List Ev}, ckGo l = 0 → ∀ x ∈ l, evCk x = 0
  | [], _, x, hx => by simp at hx
  | y :: r, h, x, hx => by
    unfold ckGo at h
    by_cases h0 : evCk y = 0
    · rw [if_neg (by simp [h0])] at h
      rcases List.mem_cons.1 hx with rfl | hx
      · exact h0
      · exact ckGo_all h x hx
    · rw [if_pos h0] at h; exact absurd h h0
theorem ckEv_all {l : List Ev} (h : ckEv l = 0) : ∀ x ∈ l, evCk x = 0 := by
  unfold ckEv at h
  by_cases h0 : 256 < l.length
  · rw [if_pos h0] at h; omega
  · rw [if_neg h0] at h; exact ckGo_all h
theorem evCk_ok {x : Ev} (h : evCk x = 0) : 0 ≤ x.time ∧ x.time ≤ 1000000000 ∧ nameB x.kind = true ∧ nameB x.name = true ∧ -1000000 ≤ x.value ∧ x.value ≤ 1000000 := by
  unfold evCk at h
  by_cases h1 : x.time < 0 ∨ 1000000000 < x.time
  · rw [if_pos h1] at h; omega
  · rw [if_neg h1] at h
    by_cases h2 : nameB x.kind = false ∨ nameB x.name = false
    · rw [if_pos h2] at h; omega
    · rw [if_neg h2] at h
      by_cases h3 : x.value < -1000000 ∨ 1000000 < x.value
      · rw [if_pos h3] at h; omega
      · exact ⟨by omega, by omega, by cases h : nameB x.kind <;> simp_all, by cases h : nameB x.name <;> simp_all, by omega, by omega⟩
theorem bnext {W0 W w' : World} (h : Below W0.heap.size W0 W) (k : Below W.heap.size W w') : Below W0.heap.size W0 w' := h.trans (k.mono h.size)
theorem bcell2 {W w1 : World} (hb : Below W.heap.size W w1) : (∀ b o, b < W.heap.size → w1.cell? ⟨b, o, none⟩ = W.cell? ⟨b, o, none⟩) ∧ (∀ b o, b < W.heap.size → w1.frozen? ⟨b, o, none⟩ = W.frozen? ⟨b, o, none⟩) ∧ W.heap.size ≤ w1.heap.size :=
  ⟨fun b o h => hb.cell (p := ⟨b, o, none⟩) h, fun b o h => hb.frozen (p := ⟨b, o, none⟩) h, hb.size⟩
theorem line_size {z : Ev} (h : evCk z = 0) : (lineB z).size ≤ 62 := by
  obtain ⟨h1, h2, h3, h4, h5, h6⟩ := evCk_ok h
  have a1 := itoaB_size z.time (by omega) (by omega)
  have a2 := itoaB_size z.value (by omega) (by omega)
  have a3 := nameB_size h3
  have a4 := nameB_size h4
  unfold lineB
  simp only [ByteArray.size_append]
  have e1 : (⟨#[32]⟩ : ByteArray).size = 1 := rfl
  have e2 : (⟨#[10]⟩ : ByteArray).size = 1 := rfl
  omega
theorem sum_run {P : Program} (a b : ByteArray) (h : a.size ≤ 8388608 ∧ b.size ≤ 8388608) : ∃ s, s = a ++ b ∧ ∀ w, (Op.stringOp .add a b).run P w = .ok (.string s) w :=
  ⟨_, rfl, fun w => run_string_add_sum w a b (by omega)⟩

def PrtP (l : List Ev) (w : World) (e : Ending) (w' : World) : Prop :=
  Below w.heap.size w w' ∧ ((ckEv l ≠ 0 ∧ e = .returned (.tuple #[.string ⟨#[]⟩, .int .i64 (ckEv l)])) ∨ (ckEv l = 0 ∧ e = .returned (.tuple #[.string (prtB l), .int .i64 0])))

set_option maxRecDepth 100000 in
set_option maxHeartbeats 4000000 in
theorem jprint_any (A : Option Addr) (n c : Nat) (l : List Ev) (hf : ∀ x ∈ l, x.Fit) (w : World) (hR : RdEv w w.heap.size A n l) (hn : n ≤ 9223372036854775807) (ht : TabOk w) :
    Calls Tryd.prog 14 #[.slice A n c] w (PrtP l w) := by
  have HLEN := Lib.hid hR.1
  have HR := Lib.hid hR
  have HF := Lib.hid hf
  have HT := Lib.hid ht
  have HP : Hid (∀ e w', PrtP l w e w' = (Below w.heap.size w w' ∧ ((ckEv l ≠ 0 ∧ e = .returned (.tuple #[.string ⟨#[]⟩, .int .i64 (ckEv l)])) ∨ (ckEv l = 0 ∧ e = .returned (.tuple #[.string (prtB l), .int .i64 0]))))) := Lib.hid fun _ _ => rfl
  have HALL : Hid (ckEv l = 0 → (∀ x ∈ l, evCk x = 0) ∧ l.length ≤ 256) := Lib.hid fun h => ⟨ckEv_all h, ckEv_len h⟩
  clear hR hf ht
  go_enter Tryd.func14, Tryd.ntmps14
  go_wp2_with fail
  refine (jcheck_any A n c l HF.out w HR.out hn).mono ?_
  generalize hck : ckEv l = ck at *
  have HK := Lib.hid hck
  clear hck
  rintro e w1 ⟨rfl, k1⟩
  have HB1 := Lib.hid k1
  have HR1 := Lib.hid (HR.out.up k1)
  have HT1 := Lib.hid (HT.out.up k1)
  clear k1
  by_cases hp : ck = 0
  · subst hp
    have h256 := (HALL.out rfl).2
    have HA2 := Lib.hid (HALL.out rfl).1
    go_wp2_with fail
    go_loopw [5, 15] (fun o i wr => ∃ (k : Nat) (acc : ByteArray), k ≤ n ∧ i = .int .i64 k ∧ o = .string acc ∧ acc.size ≤ k * 62 ∧ Below w1.heap.size w1 wr ∧ prtB l = prtGo acc (l.drop k)) (fun _ i _ => n - (intOf i).toNat)
    case atStart => exact ⟨0, ⟨#[]⟩, by omega, rfl, rfl, by simp [ByteArray.size], Below.refl _ _, rfl⟩
    case round =>
      obtain ⟨k, acc, hk, rfl, rfl, hsz, hb, hidx⟩ := hrel
      have HB := Lib.hid hb
      have HI := Lib.hid hidx
      have hrd := HR1.out.up hb
      have HT2 := Lib.hid (HT1.out.up hb)
      clear hb hidx
      by_cases hlt : k < n
      · obtain ⟨z, hz⟩ : ∃ z, l[k]? = some z := ⟨_, List.getElem?_eq_getElem (by have := HLEN.out; omega)⟩
        have hev := HA2.out z (List.mem_of_getElem? hz)
        obtain ⟨t1, t2, t3, t4, t5, t6⟩ := evCk_ok hev
        have hls := line_size hev
        have a1 := itoaB_size z.time (by omega) (by omega)
        have a2 := itoaB_size z.value (by omega) (by omega)
        have a3 := nameB_size t3
        have a4 := nameB_size t4
        have hn256 : n ≤ 256 := by have := HLEN.out; omega
        have hacc : acc.size ≤ 20000 := by omega
        have e1 : (⟨#[32]⟩ : ByteArray).size = 1 := rfl
        have e2 : (⟨#[10]⟩ : ByteArray).size = 1 := rfl
        obtain ⟨s1, hs1, r1⟩ := sum_run (P := Tryd.prog) (itoaB z.time) ⟨#[32]⟩ (by omega)
        have z1 : s1.size ≤ 22 := by rw [hs1, ByteArray.size_append]; omega
        obtain ⟨s2, hs2, r2⟩ := sum_run (P := Tryd.prog) s1 z.kind (by omega)
        have z2 : s2.size ≤ 30 := by rw [hs2, ByteArray.size_append]; omega
        obtain ⟨s3, hs3, r3⟩ := sum_run (P := Tryd.prog) s2 ⟨#[32]⟩ (by omega)
        have z3 : s3.size ≤ 31 := by rw [hs3, ByteArray.size_append]; omega
        obtain ⟨s4, hs4, r4⟩ := sum_run (P := Tryd.prog) s3 z.name (by omega)
        have z4 : s4.size ≤ 39 := by rw [hs4, ByteArray.size_append]; omega
        obtain ⟨s5, hs5, r5⟩ := sum_run (P := Tryd.prog) s4 ⟨#[32]⟩ (by omega)
        have z5 : s5.size ≤ 40 := by rw [hs5, ByteArray.size_append]; omega
        obtain ⟨s6, hs6, r6⟩ := sum_run (P := Tryd.prog) s5 (itoaB z.value) (by omega)
        have z6 : s6.size ≤ 61 := by rw [hs6, ByteArray.size_append]; omega
        obtain ⟨s7, hs7, r7⟩ := sum_run (P := Tryd.prog) s6 ⟨#[10]⟩ (by omega)
        have z7 : s7.size ≤ 62 := by rw [hs7, ByteArray.size_append]; omega
        obtain ⟨s8, hs8, r8⟩ := sum_run (P := Tryd.prog) acc s7 (by omega)
        have z8 : s8.size ≤ (k + 1) * 62 := by rw [hs8, ByteArray.size_append]; omega
        have HL : Hid (s8 = acc ++ lineB z) := Lib.hid (by rw [hs8, hs7, hs6, hs5, hs4, hs3, hs2, hs1]; rfl)
        have Z8 := Lib.hid z8
        have HNT : Hid (∀ w', TabOk w' → Calls Tryd.prog 22 #[.int .i64 z.time] w' fun e w'' => e = .returned (.string (itoaB z.time)) ∧ Below w'.heap.size w' w'') := Lib.hid fun w' h => itoa_any z.time (by omega) (by omega) w' h
        have HNV : Hid (∀ w', TabOk w' → Calls Tryd.prog 22 #[.int .i64 z.value] w' fun e w'' => e = .returned (.string (itoaB z.value)) ∧ Below w'.heap.size w' w'') := Lib.hid fun w' h => itoa_any z.value (by omega) (by omega) w' h
        obtain ⟨b, off, rfl, hblt⟩ := hrd.form (by omega)
        obtain ⟨c0, c1, c2, c3⟩ := hrd.at_ hz
        have HZ := Lib.hid (drop_cons hz)
        generalize itoaB z.time = i1 at *
        generalize itoaB z.value = i2 at *
        have hb1 : Below wr.heap.size wr (wr.alloc (.cells #[.int .i64 z.time, .string z.kind, .string z.name, .int .i64 z.value] 31)) := (Below.refl _ _).alloc (Nat.le_refl _) _
        have HB1' := Lib.hid (HB.out.trans (hb1.mono HB.out.size))
        have HT3 := Lib.hid (HT2.out.up hb1)
        have HQ : Hid (Blk (wr.alloc (.cells #[.int .i64 z.time, .string z.kind, .string z.name, .int .i64 z.value] 31)) wr.heap.size 31 #[.int .i64 z.time, .string z.kind, .string z.name, .int .i64 z.value]) := Lib.hid (Blk.new _ _ _)
        clear hz hrd hb1 hs1 hs2 hs3 hs4 hs5 hs6 hs7 hs8 z1 z2 z3 z4 z5 z6 z7 z8 e1 e2 hacc a1 a2 a3 a4 hls t1 t2 t3 t4 t5 t6 hev hn256 hsz
        go_wp2_with fail
        generalize hW0 : wr.alloc (.cells #[.int .i64 z.time, .string z.kind, .string z.name, .int .i64 z.value] 31) = W0 at *
        have HW0 := Lib.hid hW0
        clear hW0 c0 c1 c2 c3
        obtain ⟨d0, d1, d2, d3, df, dlt⟩ := Ev.box HQ.out
        have hrule : ∀ w' : World, Below W0.heap.size W0 w' → ∀ b o, b < W0.heap.size → w'.cell? ⟨b, o, none⟩ = W0.cell? ⟨b, o, none⟩ := fun w' hb b o h => hb.cell (p := ⟨b, o, none⟩) h
        go_region_held (fun w' => Below W0.heap.size W0 w')
          (repeat' (first | with_reducible exact hKp | with_reducible exact hKr | with_reducible exact Below.refl _ _ | with_reducible assumption | with_reducible refine below_drew ?_ | with_reducible refine Below.alloc ?_ ?_ _ | omega | (simp <;> omega) | (simp; done)))
          (first
            | (go_at_call_of 22 (Value.int IntKind.i64 z.time); refine (HNT.out _ (HT3.out.up (by assumption))).mono ?_
               rintro e wr' ⟨rfl, hbr⟩; have hKr := bnext (by assumption) hbr)
            | (go_at_call_of 22 (Value.int IntKind.i64 z.value); refine (HNV.out _ (HT3.out.up (by assumption))).mono ?_
               rintro e wp' ⟨rfl, hbp⟩; have hKp := bnext (by assumption) hbp))
        all_goals
          go_wp2_with fail
          go_roundw
          case rel =>
            refine ⟨k + 1, s8, by omega, by go_num, rfl, Z8.out, HB1'.out.trans (Below.mono ?_ HB1'.out.size), by rw [HI.out, HZ.out, HL.out]; rfl⟩
            repeat' (first | with_reducible exact hKp | with_reducible exact hKr | with_reducible exact Below.refl _ _ | with_reducible assumption | with_reducible refine below_drew ?_ | with_reducible refine Below.alloc ?_ ?_ _ | omega | (simp <;> omega) | (simp; done))
          case measure => simp [intOf]; omega
      · have hd : l.drop k = [] := by rw [List.drop_eq_nil_iff]; have := HLEN.out; omega
        have HDD := Lib.hid hd
        clear hd hrd
        go_wp2_with fail
        go_ret2
        rw [HP.out]
        refine ⟨HB1.out.trans (HB.out.mono HB1.out.size), .inr ⟨by trivial, ?_⟩⟩
        rw [HI.out, HDD.out]; rfl
  · have hpb : (ck != 0) = true := by simpa using hp
    go_wp2_with fail
    go_ret2
    rw [HP.out]
    exact ⟨HB1.out, .inl ⟨hp, rfl⟩⟩
end Go.Proofs.YtmmkkkakbbidjaaDoor
