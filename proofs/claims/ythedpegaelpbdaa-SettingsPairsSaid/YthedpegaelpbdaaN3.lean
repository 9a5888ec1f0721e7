/- A device's name and nodes: the checker. -/
import Derived.Test.YthedpegaelpbdaaN1
import Derived.Test.YthedpegaelpbdaaN2
import Derived.Maps.OwnOps
import Derived.Maps.Views
namespace Go.Proofs.Ythedpegaelpbdaa
open Go.ChangeShapes Go.WideShapes Go.ChangeAt Go.RowKit Go.Maps
set_option linter.unusedVariables false
attribute [local go_sem ↓] execOp_call_val
attribute [local go_sem] callVal_func setCell_drewN alloc_drewN sEq_walk

theorem plainElem_bool_inv {H : Type} {P : Program} {e : TypeId} (he : P.underlying e = some .bool) {v : Value} {z : DataW H × List MemPlace} (h : plainElem P e v = some z) : ∃ x, v = .bool x ∧ z = (.lit (.bool x), []) := by
  unfold plainElem at h
  rw [he] at h
  cases v <;> simp at h
  exact ⟨_, rfl, h.symm⟩

/-- m[k] of a set of the call's own: the slot holds a bool -/
theorem wpList_lookup_own_bool {H : Type} {P : Program} (w : World) {ops : Array Oper} {rest : List Oper} {o : Oper} {a : Act} {Q : Exit → Act → World → Prop}
    (hg : o.guard = none) (m x : Operand) (t : TypeId) (hop : o.op = Op.lookup t m x false)
    (k e : TypeId) (K : Keyed P k) (ht : P.underlying t = some (.map k e)) (he : P.underlying e = some .bool) (hz : (zeroValue e).run P w = .ok (.bool false) w) (b n : Nat) (D : DataW H)
    (hm : a.eval m = .map (some b)) (hown : w.ownsMap P k (plainElem P e) b n D) (key : Value) (kl : Lit) (hx : a.eval x = key) (hkey : keyOf P k key = some kl)
    (c : Bool) (hc : D.atKey kl (.lit (.bool false)) = .lit (.bool c)) (hK : wpList P ops Q rest (a.put o.dst (.bool c)) w) :
    wpList P ops Q (o :: rest) a w := by
  refine wpList_plain hg fun K' hK' => ?_
  obtain ⟨v, ps, hrun, hv⟩ := hown.lookup K ht hz (plainElem_bool he false) hkey
  obtain ⟨c', rfl, hc'⟩ := plainElem_bool_inv he hv
  simp only [Prod.mk.injEq] at hc'
  have hcc : c' = c := by
    have h1 := hc'.1
    rw [hc] at h1
    injection h1 with h1
    injection h1 with h1
    exact h1.symm
  subst hcc
  unfold Oper.wp
  simp [execOp, hop, hm, hx, hrun, Result.andThen]
  exact hK' _ _ hK

/-- the names that the checker has seen -/
def SeenM (w : World) (b n : Nat) (l : List ByteArray) : Prop :=
  ∃ D : DataW Unit, w.ownsMap Try.prog 9 (plainElem Try.prog 4) b n D ∧ IsMap D ∧ ∀ s : ByteArray, D.atKey (.string s.data.toList) (.lit (.bool false)) = .lit (.bool (l.any fun x => sEq s x))
theorem SeenM.lt {w : World} {b n : Nat} {l : List ByteArray} (h : SeenM w b n l) : b < w.heap.size := by obtain ⟨D, h1, _⟩ := h; exact h1.lt
theorem SeenM.kept {w w' : World} {row : Option Nat} {b n : Nat} {l : List ByteArray} (h : SeenM w b n l) (hg : w.grownBy w' row) (hne : some b ≠ row) : SeenM w' b n l := by
  obtain ⟨D, h1, h2⟩ := h; exact ⟨D, h1.kept hg hne, h2⟩
theorem SeenM.below {w w' : World} {b n : Nat} {l : List ByteArray} (h : SeenM w b n l) (hb : Below w.heap.size w w') : SeenM w' b n l := h.kept (row := none) ⟨hb.os, hb.tape, hb.output, hb.size, fun k hk _ => hb.block k hk⟩ (by simp)
theorem SeenM.made (w : World) : SeenM (w.alloc (.map #[] 0)) w.heap.size 0 [] :=
  ⟨.map [], World.ownsMap_made _ _ _ _, ⟨[], rfl⟩, fun s => rfl⟩
theorem law_str : Keyed Try.prog 9 := string_keyed Try.underlying9
theorem zero_bool (w : World) : (zeroValue 4).run Try.prog w = .ok (.bool false) w := by kernel_rfl
theorem SeenM.put {w : World} {b n : Nat} {l : List ByteArray} {D : DataW Unit} (s : ByteArray) (h1 : w.ownsMap Try.prog 9 (plainElem Try.prog 4) b (n + 1) (D.put (.string s.data.toList) (.lit (.bool true)))) (h2 : IsMap D)
    (h3 : ∀ s : ByteArray, D.atKey (.string s.data.toList) (.lit (.bool false)) = .lit (.bool (l.any fun x => sEq s x))) : SeenM w b (n + 1) (s :: l) := by
  refine ⟨_, h1, ?_, fun t => ?_⟩
  · obtain ⟨es, rfl⟩ := h2
    exact ⟨_, rfl⟩
  · by_cases hts : t = s
    · subst hts
      rw [atKey_put_same h2 (k := .string t.data.toList) trivial]
      simp [sEq]
    · rw [atKey_put_other (fun e => hts (by injection e with e; cases t; cases s; simp at e; rw [e])), h3]
      have : sEq t s = false := sEq_ff.2 hts
      simp [this]

/-- a slice keeps its cells while a map is written -/
theorem Rd.mapped {w w' : World} {B B' size n b m : Nat} {A : Option Addr} {xs : List Value} {l : List ByteArray} (h : Rd w B size A n xs) (hs : 0 < size) (hS : SeenM w b m l) (hg : w.grownBy w' (some b)) (hB : B ≤ w.heap.size) (hB' : B ≤ B') : Rd w' B' size A n xs :=
  ⟨h.1, fun hn => by
    obtain ⟨b', off, e, hlt, hc⟩ := h.2 hn
    have hx : 0 < xs.length := by rw [h.1]; exact Nat.mul_pos hn hs
    have hne : b' ≠ b := by
      rintro rfl
      have h0 := hc 0 _ (List.getElem?_eq_getElem hx)
      obtain ⟨D, ⟨es, clock, hb, _⟩, _⟩ := hS
      unfold World.cell? at h0
      rw [hb] at h0
      cases h0
    exact ⟨b', off, e, by omega, fun j u hu => (World.cell?_of_block (a := ⟨b', off + j, none⟩) (hg.block b' (by omega) (fun e => by injection e; omega))).trans (hc j u hu)⟩⟩
theorem RdStr.mapped {w w' : World} {B B' n b m : Nat} {A : Option Addr} {xs : List ByteArray} {l : List ByteArray} (h : RdStr w B A n xs) (hS : SeenM w b m l) (hg : w.grownBy w' (some b)) (hB : B ≤ w.heap.size) (hB' : B ≤ B') : RdStr w' B' A n xs := ⟨h.1, h.2.mapped (by omega) hS hg hB hB'⟩

/-- what device answers -/
def devR (nodes seen : List ByteArray) (name : ByteArray) (ends : List ByteArray) : Int :=
  if nameB name = false then 5 else if seen.any (fun x => sEq name x) then 7
  else if ends.any (fun s => !(nodes.any fun x => sEq s x)) then 6
  else if ends.length = 2 ∧ ends[0]? = ends[1]? then 3 else 0

def PostDev (w : World) (b n : Nat) (seen : List ByteArray) (name : ByteArray) (r : Int) (e : Ending) (w' : World) : Prop :=
  e = .returned (.int .i64 r) ∧ w.grownBy w' (some b) ∧ (r = 0 → SeenM w' b (n + 1) (name :: seen))

theorem check_box {w : World} {p : Nat} {t : TypeId} {u v : Value} (h : Blk w p t #[u, v]) : w.cell? ⟨p, 0, none⟩ = some u ∧ w.cell? ⟨p, 1, none⟩ = some v ∧ (∀ i, w.frozen? ⟨p, i, none⟩ = false) ∧ p < w.heap.size := ⟨h.cell 0, h.cell 1, h.frozen, h.lt⟩

set_option maxRecDepth 100000 in
set_option maxHeartbeats 4000000 in
theorem device_any (b n : Nat) (A : Option Addr) (nn nc : Nat) (nodes : List ByteArray) (seen : List ByteArray) (name : ByteArray) (V : Option Addr) (m mc : Nat) (ends : List ByteArray) (w : World)
    (hN : RdStr w w.heap.size A nn nodes) (hnn : nn ≤ 9223372036854775807) (hS : SeenM w b n seen) (hn : n ≤ 65536) (hname : name.size ≤ maxLen) (hE : RdStr w w.heap.size V m ends) (hm : m ≤ 2) :
    Calls Try.prog 86 #[.agg #[.map (some b), .slice A nn nc], .string name, .slice V m mc] w (PostDev w b n seen name (devR nodes seen name ends)) := by
  have hblt := hS.lt
  obtain ⟨D, hown, hmap, hat⟩ := hS
  have K0 : Below w.heap.size w (w.alloc (.cells #[.map (some b), .slice A nn nc] 157)) := (Below.refl _ _).alloc (Nat.le_refl _) _
  have HK0 := Lib.hid K0
  have HN := Lib.hid ((hN.below K0 (Nat.le_refl _)).more K0.size)
  have HE := Lib.hid ((hE.below K0 (Nat.le_refl _)).more K0.size)
  have HO := Lib.hid (hown.alloc (.cells #[.map (some b), .slice A nn nc] 157))
  have HAT := Lib.hid hat
  have HD : Hid (∀ (nodes seen ends : List ByteArray), devR nodes seen name ends = if nameB name = false then 5 else if seen.any (fun x => sEq name x) then 7
    else if ends.any (fun s => !(nodes.any fun x => sEq s x)) then 6 else if ends.length = 2 ∧ ends[0]? = ends[1]? then 3 else 0) := Lib.hid fun _ _ _ => rfl
  clear hN hE hat hown K0
  cases hnm : nameB name with
  | false =>
    have HNM := Lib.hid hnm
    clear hnm
    go_enter Try.func86, Try.ntmps86
    go_wp2_with fail
    refine (name_any name _ hname).mono ?_
    rw [HNM.out]
    rintro e w1 ⟨rfl, k1⟩
    have HK1 := Lib.hid (HK0.out.trans (k1.mono HK0.out.size))
    clear k1
    go_wp2_with fail
    go_ret
    have hr : devR nodes seen name ends = 5 := by rw [HD.out, if_pos HNM.out]
    exact ⟨ret_int hr.symm, only_of_below HK1.out _, fun h => by omega⟩
  | true =>
    have HNM := Lib.hid hnm
    clear hnm
    go_enter Try.func86, Try.ntmps86
    go_wp2_with fail
    refine (name_any name _ hname).mono ?_
    rw [HNM.out]
    rintro e w1 ⟨rfl, k1⟩
    have HK1 := Lib.hid (HK0.out.trans (k1.mono HK0.out.size))
    have hQ : Blk w1 w.heap.size 157 #[.map (some b), .slice A nn nc] := (Blk.new_ rfl).below k1 (by simp)
    have HO1 := Lib.hid (HO.out.kept (row := none) ⟨k1.os, k1.tape, k1.output, k1.size, fun k hk _ => k1.block k hk⟩ (by simp))
    have HN1 := Lib.hid ((HN.out.below k1 (Nat.le_refl _)).more k1.size)
    have HE1 := Lib.hid ((HE.out.below k1 (Nat.le_refl _)).more k1.size)
    obtain ⟨c0, c1, cf, hlt1⟩ := check_box hQ
    have HQ := Lib.hid hQ
    clear k1 hQ
    have hk := WideMaps.keyOf_string_mk (P := Try.prog) Try.underlying9 hname
    have HKEY := Lib.hid hk
    clear hk
    cases hsn : seen.any (fun x => sEq name x) with
    | true =>
      have HSN := Lib.hid hsn
      have HSEEN : Hid (D.atKey (.string name.data.toList) (.lit (.bool false)) = .lit (.bool true)) := Lib.hid (by rw [HAT.out, hsn])
      clear hsn
      go_wp2_with (at_lookup; refine wpList_lookup_own_bool _ rfl _ _ 155 rfl 9 4 law_str Try.underlying155 Try.underlying4 (zero_bool _) b n D rfl HO1.out _ _ rfl HKEY.out _ HSEEN.out ?_)
      go_ret
      have hr : devR nodes seen name ends = 7 := by rw [HD.out, HNM.out, HSN.out]; rfl
      exact ⟨ret_int hr.symm, only_of_below HK1.out _, fun h => by omega⟩
    | false =>
      have HSN := Lib.hid hsn
      have HSEEN : Hid (D.atKey (.string name.data.toList) (.lit (.bool false)) = .lit (.bool false)) := Lib.hid (by rw [HAT.out, hsn])
      clear hsn
      go_wp2_with (first | (at_lookup; refine wpList_lookup_own_bool _ rfl _ _ 155 rfl 9 4 law_str Try.underlying155 Try.underlying4 (zero_bool _) b n D rfl HO1.out _ _ rfl HKEY.out _ HSEEN.out ?_) | (at_mapUpdate; refine wpList_mapUpdate_own _ rfl _ _ _ 155 rfl 9 4 law_str Try.underlying155 _ b n D rfl HO1.out (by unfold maxLen; omega) _ _ _ rfl rfl HKEY.out _ [] (plainElem_bool Try.underlying4 true) ?_))
      intro w2 hown2 hg2
      have hS1 : SeenM w1 b n seen := ⟨D, HO1.out, hmap, HAT.out⟩
      have HS2 := Lib.hid (SeenM.put name hown2 hmap HAT.out)
      have HN2 := Lib.hid (HN1.out.mapped hS1 hg2 (Nat.le_refl _) hg2.size)
      have HE2 := Lib.hid (HE1.out.mapped hS1 hg2 (Nat.le_refl _) hg2.size)
      have hQ2 : Blk w2 w.heap.size 157 #[.map (some b), .slice A nn nc] := HQ.out.grown hg2 (fun e => by injection e; omega)
      have HG2 := Lib.hid (only_trans (only_of_below HK1.out (some b)) hg2)
      obtain ⟨d0, d1, df, hlt2⟩ := check_box hQ2
      have hEl := Lib.hid HE2.out.1
      clear hown2 hg2 hS1 hQ2 c0 c1 cf
      go_wp2_with fail
      go_loop [8, 23] (fun _ i => ∃ k : Nat, k ≤ m ∧ i = .int .i64 k ∧ ends.any (fun s => !(nodes.any fun x => sEq s x)) = (ends.drop k).any (fun s => !(nodes.any fun x => sEq s x))) (fun _ i => m - (intOf i).toNat)
      case atStart => exact ⟨0, by omega, rfl, rfl⟩
      case round =>
        obtain ⟨k, hk, rfl, hidx⟩ := hrel
        have HIDX := Lib.hid hidx
        clear hidx
        by_cases hlt : k < m
        · obtain ⟨y, hy⟩ : ∃ y, ends[k]? = some y := ⟨_, List.getElem?_eq_getElem (by have := hEl.out; omega)⟩
          obtain ⟨bv, ov, rfl, hbv⟩ := HE2.out.form (by omega)
          have hcell := HE2.out.at_ hy
          have HZ := Lib.hid (drop_cons hy)
          clear hy
          cases hp : nodes.any (fun x => sEq y x) with
          | true =>
            have HP := Lib.hid hp
            clear hp
            go_wp2_with fail
            refine (contains_str A nn nc nodes y _ HN2.out hnn).mono ?_
            rw [HP.out]
            rintro e w3 ⟨rfl, rfl⟩
            go_wp2_with fail
            go_round
            case rel => exact ⟨k + 1, by omega, by go_num, by rw [HIDX.out, HZ.out]; simp [HP.out]⟩
            case measure => simp [intOf]; omega
          | false =>
            have HP := Lib.hid hp
            clear hp
            go_wp2_with fail
            refine (contains_str A nn nc nodes y _ HN2.out hnn).mono ?_
            rw [HP.out]
            rintro e w3 ⟨rfl, rfl⟩
            go_wp2_with fail
            go_ret
            have hr : devR nodes seen name ends = 6 := by
              rw [HD.out, HNM.out, HSN.out, HIDX.out, HZ.out]
              simp [HP.out]
            exact ⟨ret_int hr.symm, HG2.out, fun h => by omega⟩
        · have hd : ends.drop k = [] := by rw [List.drop_eq_nil_iff]; have := hEl.out; omega
          have hr : devR nodes seen name ends = if ends.length = 2 ∧ ends[0]? = ends[1]? then 3 else 0 := by
            rw [HD.out, HNM.out, HSN.out, HIDX.out, hd]
            simp
          have HR := Lib.hid hr
          clear hd hr
          by_cases hm2 : m = 2
          · subst hm2
            obtain ⟨y0, hy0⟩ : ∃ y, ends[0]? = some y := ⟨_, List.getElem?_eq_getElem (by have := hEl.out; omega)⟩
            obtain ⟨y1, hy1⟩ : ∃ y, ends[1]? = some y := ⟨_, List.getElem?_eq_getElem (by have := hEl.out; omega)⟩
            obtain ⟨bv, ov, rfl, hbv⟩ := HE2.out.form (by omega)
            have hcell0 := HE2.out.at_ hy0
            have hcell1 := HE2.out.at_ hy1
            rw [Nat.add_zero] at hcell0
            have hw0 : (0 : Int) < ((2 : Nat) : Int) := by omega
            cases hq : sEq y0 y1 with
            | true =>
              have hr : devR nodes seen name ends = 3 := by rw [HR.out, hy0, hy1, if_pos ⟨hEl.out, by rw [sEq_iff.1 hq]⟩]
              have HR2 := Lib.hid hr
              clear hy0 hy1 hr
              go_wp2_with fail
              go_quiet (fail)
              go_wp2_with fail
              go_ret
              exact ⟨ret_int HR2.out.symm, only_drewN HG2.out _, fun h => by rw [HR2.out] at h; omega⟩
            | false =>
              have hr : devR nodes seen name ends = 0 := by rw [HR.out, hy0, hy1, if_neg (fun h => sEq_ff.1 hq (by injection h.2))]
              have HR2 := Lib.hid hr
              clear hy0 hy1 hr
              go_wp2_with fail
              go_quiet (fail)
              go_wp2_with fail
              go_ret
              exact ⟨ret_int HR2.out.symm, only_drewN HG2.out _, fun _ => HS2.out.below (below_drewN (Below.refl _ _) _)⟩
          · have hr : devR nodes seen name ends = 0 := by rw [HR.out, if_neg (fun h => hm2 (by have := hEl.out; omega))]
            have HR2 := Lib.hid hr
            have hmf : ((m : Int) == 2) = false := by rw [beq_eq_false_iff_ne]; omega
            clear hr hm2
            go_wp2_with fail
            go_quiet (fail)
            go_wp2_with fail
            go_ret
            exact ⟨ret_int HR2.out.symm, only_drewN HG2.out _, fun _ => HS2.out.below (below_drewN (Below.refl _ _) _)⟩
end Go.Proofs.Ythedpegaelpbdaa
