/- Parts of the proof, put together into one file. -/
import Derived.Test.YtakllkkmofdpaaaGreatDoorK01
import Derived.Maps.OwnOps
import Derived.Maps.Views
import Derived.Deep.RegionHeld
/- A device's name and nodes: the checker. -/
namespace Go.Proofs.YtakllkkmofdpaaaGreatDoor
open Go.ChangeShapes Go.WideShapes Go.ChangeAt Go.RowKit Go.Maps
set_option linter.unusedVariables false
attribute [local go_sem ↓] execOp_call_val
attribute [local go_sem] callVal_func setCell_drewN alloc_drewN sEq_walk

theorem plainElem_bool_inv {H : Type} {P : Program} {e : TypeId} (he : P.underlying e = some .bool) {v : Value} {z : DataW H × List MemPlace} (h : plainElem P e v = some z) : ∃ x, v = .bool x ∧ z = (.lit (.bool x), []) := by
  unfold plainElem at h
  rw [he] at h
  cases v <;> simp at h
  exact ⟨_, rfl, h.symm⟩

/-- m[k] of a set of the call's own: the slot holds a bool -/
theorem wpList_lookup_own_bool {H : Type} {P : Program} (w : World) {ops : Array Oper} {rest : List Oper} {o : Oper} {a : Act} {Q : Exit → Act → World → Prop}
    (hg : o.guard = none) (m x : Operand) (t : TypeId) (hop : o.op = Op.lookup t m x false)
    (k e : TypeId) (K : Keyed P k) (ht : P.underlying t = some (.map k e)) (he : P.underlying e = some .bool) (hz : (zeroValue e).run P w = .ok (.bool false) w) (b n : Nat) (D : DataW H)
    (hm : a.eval m = .map (some b)) (hown : w.ownsMap P k (plainElem P e) b n D) (key : Value) (kl : Lit) (hx : a.eval x = key) (hkey : keyOf P k key = some kl)
    (c : Bool) (hc : D.atKey kl (.lit (.bool false)) = .lit (.bool c)) (hK : wpList P ops Q rest (a.put o.dst (.bool c)) w) :
    wpList P ops Q (o :: rest) a w := by
  refine wpList_plain hg fun K' hK' => ?_
  obtain ⟨v, ps, hrun, hv⟩ := hown.lookup K ht hz (plainElem_bool he false) hkey
  obtain ⟨c', rfl, hc'⟩ := plainElem_bool_inv he hv
  simp only [Prod.mk.injEq] at hc'
  have hcc : c' = c := by
    have h1 := hc'.1
    rw [hc] at h1
    injection h1 with h1
    injection h1 with h1
    exact h1.symm
  subst hcc
  unfold Oper.wp
  simp [execOp, hop, hm, hx, hrun, Result.andThen]
  exact hK' _ _ hK

/-- the names that the checker has seen -/
def SeenM (w : World) (b n : Nat) (l : List ByteArray) : Prop :=
  ∃ D : DataW Unit, w.ownsMap Tryz.prog 9 (plainElem Tryz.prog 4) b n D ∧ IsMap D ∧ ∀ s : ByteArray, D.atKey (.string s.data.toList) (.lit (.bool false)) = .lit (.bool (l.any fun x => sEq s x))
theorem SeenM.lt {w : World} {b n : Nat} {l : List ByteArray} (h : SeenM w b n l) : b < w.heap.size := by obtain ⟨D, h1, _⟩ := h; exact h1.lt
theorem SeenM.kept {w w' : World} {row : Option Nat} {b n : Nat} {l : List ByteArray} (h : SeenM w b n l) (hg : w.grownBy w' row) (hne : some b ≠ row) : SeenM w' b n l := by
  obtain ⟨D, h1, h2⟩ := h; exact ⟨D, h1.kept hg hne, h2⟩
theorem SeenM.below {w w' : World} {b n : Nat} {l : List ByteArray} (h : SeenM w b n l) (hb : Below w.heap.size w w') : SeenM w' b n l := h.kept (row := none) ⟨hb.os, hb.tape, hb.output, hb.size, fun k hk _ => hb.block k hk⟩ (by simp)
theorem SeenM.made (w : World) : SeenM (w.alloc (.map #[] 0)) w.heap.size 0 [] :=
  ⟨.map [], World.ownsMap_made _ _ _ _, ⟨[], rfl⟩, fun s => rfl⟩
theorem law_str : Keyed Tryz.prog 9 := string_keyed Tryz.underlying9
theorem zero_bool (w : World) : (zeroValue 4).run Tryz.prog w = .ok (.bool false) w := by kernel_rfl
theorem SeenM.put {w : World} {b n : Nat} {l : List ByteArray} {D : DataW Unit} (s : ByteArray) (h1 : w.ownsMap Tryz.prog 9 (plainElem Tryz.prog 4) b (n + 1) (D.put (.string s.data.toList) (.lit (.bool true)))) (h2 : IsMap D)
    (h3 : ∀ s : ByteArray, D.atKey (.string s.data.toList) (.lit (.bool false)) = .lit (.bool (l.any fun x => sEq s x))) : SeenM w b (n + 1) (s :: l) := by
  refine ⟨_, h1, ?_, fun t => ?_⟩
  · obtain ⟨es, rfl⟩ := h2
    exact ⟨_, rfl⟩
  · by_cases hts : t = s
    · subst hts
      rw [atKey_put_same h2 (k := .string t.data.toList) trivial]
      simp [sEq]
    · rw [atKey_put_other (fun e => hts (by injection e with e; cases t; cases s; simp at e; rw [e])), h3]
      have : sEq t s = false := sEq_ff.2 hts
      simp [this]

/-- a slice keeps its cells while a map is written -/
theorem Rd.mapped {w w' : World} {B B' size n b m : Nat} {A : Option Addr} {xs : List Value} {l : List ByteArray} (h : Rd w B size A n xs) (hs : 0 < size) (hS : SeenM w b m l) (hg : w.grownBy w' (some b)) (hB : B ≤ w.heap.size) (hB' : B ≤ B') : Rd w' B' size A n xs :=
  ⟨h.1, fun hn => by
    obtain ⟨b', off, e, hlt, hc⟩ := h.2 hn
    have hx : 0 < xs.length := by rw [h.1]; exact Nat.mul_pos hn hs
    have hne : b' ≠ b := by
      rintro rfl
      have h0 := hc 0 _ (List.getElem?_eq_getElem hx)
      obtain ⟨D, ⟨es, clock, hb, _⟩, _⟩ := hS
      unfold World.cell? at h0
      rw [hb] at h0
      cases h0
    exact ⟨b', off, e, by omega, fun j u hu => (World.cell?_of_block (a := ⟨b', off + j, none⟩) (hg.block b' (by omega) (fun e => by injection e; omega))).trans (hc j u hu)⟩⟩
theorem RdStr.mapped {w w' : World} {B B' n b m : Nat} {A : Option Addr} {xs : List ByteArray} {l : List ByteArray} (h : RdStr w B A n xs) (hS : SeenM w b m l) (hg : w.grownBy w' (some b)) (hB : B ≤ w.heap.size) (hB' : B ≤ B') : RdStr w' B' A n xs := ⟨h.1, h.2.mapped (by omega) hS hg hB hB'⟩

/-- what device answers -/
def devR (nodes seen : List ByteArray) (name : ByteArray) (ends : List ByteArray) : Int :=
  if nameB name = false then 5 else if seen.any (fun x => sEq name x) then 7
  else if ends.any (fun s => !(nodes.any fun x => sEq s x)) then 6
  else if ends.length = 2 ∧ ends[0]? = ends[1]? then 3 else 0

def PostDev (w : World) (b n : Nat) (seen : List ByteArray) (name : ByteArray) (r : Int) (e : Ending) (w' : World) : Prop :=
  e = .returned (.int .i64 r) ∧ w.grownBy w' (some b) ∧ (r = 0 → SeenM w' b (n + 1) (name :: seen))

theorem check_box {w : World} {p : Nat} {t : TypeId} {u v : Value} (h : Blk w p t #[u, v]) : w.cell? ⟨p, 0, none⟩ = some u ∧ w.cell? ⟨p, 1, none⟩ = some v ∧ (∀ i, w.frozen? ⟨p, i, none⟩ = false) ∧ p < w.heap.size := ⟨h.cell 0, h.cell 1, h.frozen, h.lt⟩

set_option maxRecDepth 100000 in
set_option maxHeartbeats 4000000 in
theorem device_any (b n : Nat) (A : Option Addr) (nn nc : Nat) (nodes : List ByteArray) (seen : List ByteArray) (name : ByteArray) (V : Option Addr) (m mc : Nat) (ends : List ByteArray) (w : World)
    (hN : RdStr w w.heap.size A nn nodes) (hnn : nn ≤ 9223372036854775807) (hS : SeenM w b n seen) (hn : n ≤ 65536) (hname : name.size ≤ maxLen) (hE : RdStr w w.heap.size V m ends) (hm : m ≤ 2) :
    Calls Tryz.prog 104 #[.agg #[.map (some b), .slice A nn nc], .string name, .slice V m mc] w (PostDev w b n seen name (devR nodes seen name ends)) := by
  have hblt := hS.lt
  obtain ⟨D, hown, hmap, hat⟩ := hS
  have K0 : Below w.heap.size w (w.alloc (.cells #[.map (some b), .slice A nn nc] 161)) := (Below.refl _ _).alloc (Nat.le_refl _) _
  have HK0 := Lib.hid K0
  have HN := Lib.hid ((hN.below K0 (Nat.le_refl _)).more K0.size)
  have HE := Lib.hid ((hE.below K0 (Nat.le_refl _)).more K0.size)
  have HO := Lib.hid (hown.alloc (.cells #[.map (some b), .slice A nn nc] 161))
  have HAT := Lib.hid hat
  have HD : Hid (∀ (nodes seen ends : List ByteArray), devR nodes seen name ends = if nameB name = false then 5 else if seen.any (fun x => sEq name x) then 7
    else if ends.any (fun s => !(nodes.any fun x => sEq s x)) then 6 else if ends.length = 2 ∧ ends[0]? = ends[1]? then 3 else 0) := Lib.hid fun _ _ _ => rfl
  clear hN hE hat hown K0
  cases hnm : nameB name with
  | false =>
    have HNM := Lib.hid hnm
    clear hnm
    go_enter Tryz.func104, Tryz.ntmps104
    go_wp2_with fail
    refine (name_any name _ hname).mono ?_
    rw [HNM.out]
    rintro e w1 ⟨rfl, k1⟩
    have HK1 := Lib.hid (HK0.out.trans (k1.mono HK0.out.size))
    clear k1
    go_wp2_with fail
    go_ret
    have hr : devR nodes seen name ends = 5 := by rw [HD.out, if_pos HNM.out]
    exact ⟨ret_int hr.symm, only_of_below HK1.out _, fun h => by omega⟩
  | true =>
    have HNM := Lib.hid hnm
    clear hnm
    go_enter Tryz.func104, Tryz.ntmps104
    go_wp2_with fail
    refine (name_any name _ hname).mono ?_
    rw [HNM.out]
    rintro e w1 ⟨rfl, k1⟩
    have HK1 := Lib.hid (HK0.out.trans (k1.mono HK0.out.size))
    have hQ : Blk w1 w.heap.size 161 #[.map (some b), .slice A nn nc] := (Blk.new_ rfl).below k1 (by simp)
    have HO1 := Lib.hid (HO.out.kept (row := none) ⟨k1.os, k1.tape, k1.output, k1.size, fun k hk _ => k1.block k hk⟩ (by simp))
    have HN1 := Lib.hid ((HN.out.below k1 (Nat.le_refl _)).more k1.size)
    have HE1 := Lib.hid ((HE.out.below k1 (Nat.le_refl _)).more k1.size)
    obtain ⟨c0, c1, cf, hlt1⟩ := check_box hQ
    have HQ := Lib.hid hQ
    clear k1 hQ
    have hk := WideMaps.keyOf_string_mk (P := Tryz.prog) Tryz.underlying9 hname
    have HKEY := Lib.hid hk
    clear hk
    cases hsn : seen.any (fun x => sEq name x) with
    | true =>
      have HSN := Lib.hid hsn
      have HSEEN : Hid (D.atKey (.string name.data.toList) (.lit (.bool false)) = .lit (.bool true)) := Lib.hid (by rw [HAT.out, hsn])
      clear hsn
      go_wp2_with (at_lookup; refine wpList_lookup_own_bool _ rfl _ _ 159 rfl 9 4 law_str Tryz.underlying159 Tryz.underlying4 (zero_bool _) b n D rfl HO1.out _ _ rfl HKEY.out _ HSEEN.out ?_)
      go_ret
      have hr : devR nodes seen name ends = 7 := by rw [HD.out, HNM.out, HSN.out]; rfl
      exact ⟨ret_int hr.symm, only_of_below HK1.out _, fun h => by omega⟩
    | false =>
      have HSN := Lib.hid hsn
      have HSEEN : Hid (D.atKey (.string name.data.toList) (.lit (.bool false)) = .lit (.bool false)) := Lib.hid (by rw [HAT.out, hsn])
      clear hsn
      go_wp2_with (first | (at_lookup; refine wpList_lookup_own_bool _ rfl _ _ 159 rfl 9 4 law_str Tryz.underlying159 Tryz.underlying4 (zero_bool _) b n D rfl HO1.out _ _ rfl HKEY.out _ HSEEN.out ?_) | (at_mapUpdate; refine wpList_mapUpdate_own _ rfl _ _ _ 159 rfl 9 4 law_str Tryz.underlying159 _ b n D rfl HO1.out (by unfold maxLen; omega) _ _ _ rfl rfl HKEY.out _ [] (plainElem_bool Tryz.underlying4 true) ?_))
      intro w2 hown2 hg2
      have hS1 : SeenM w1 b n seen := ⟨D, HO1.out, hmap, HAT.out⟩
      have HS2 := Lib.hid (SeenM.put name hown2 hmap HAT.out)
      have HN2 := Lib.hid (HN1.out.mapped hS1 hg2 (Nat.le_refl _) hg2.size)
      have HE2 := Lib.hid (HE1.out.mapped hS1 hg2 (Nat.le_refl _) hg2.size)
      have hQ2 : Blk w2 w.heap.size 161 #[.map (some b), .slice A nn nc] := HQ.out.grown hg2 (fun e => by injection e; omega)
      have HG2 := Lib.hid (only_trans (only_of_below HK1.out (some b)) hg2)
      obtain ⟨d0, d1, df, hlt2⟩ := check_box hQ2
      have hEl := Lib.hid HE2.out.1
      clear hown2 hg2 hS1 hQ2 c0 c1 cf
      go_wp2_with fail
      go_loop [8, 23] (fun _ i => ∃ k : Nat, k ≤ m ∧ i = .int .i64 k ∧ ends.any (fun s => !(nodes.any fun x => sEq s x)) = (ends.drop k).any (fun s => !(nodes.any fun x => sEq s x))) (fun _ i => m - (intOf i).toNat)
      case atStart => exact ⟨0, by omega, rfl, rfl⟩
      case round =>
        obtain ⟨k, hk, rfl, hidx⟩ := hrel
        have HIDX := Lib.hid hidx
        clear hidx
        by_cases hlt : k < m
        · obtain ⟨y, hy⟩ : ∃ y, ends[k]? = some y := ⟨_, List.getElem?_eq_getElem (by have := hEl.out; omega)⟩
          obtain ⟨bv, ov, rfl, hbv⟩ := HE2.out.form (by omega)
          have hcell := HE2.out.at_ hy
          have HZ := Lib.hid (drop_cons hy)
          clear hy
          cases hp : nodes.any (fun x => sEq y x) with
          | true =>
            have HP := Lib.hid hp
            clear hp
            go_wp2_with fail
            refine (contains_str A nn nc nodes y _ HN2.out hnn).mono ?_
            rw [HP.out]
            rintro e w3 ⟨rfl, rfl⟩
            go_wp2_with fail
            go_round
            case rel => exact ⟨k + 1, by omega, by go_num, by rw [HIDX.out, HZ.out]; simp [HP.out]⟩
            case measure => simp [intOf]; omega
          | false =>
            have HP := Lib.hid hp
            clear hp
            go_wp2_with fail
            refine (contains_str A nn nc nodes y _ HN2.out hnn).mono ?_
            rw [HP.out]
            rintro e w3 ⟨rfl, rfl⟩
            go_wp2_with fail
            go_ret
            have hr : devR nodes seen name ends = 6 := by
              rw [HD.out, HNM.out, HSN.out, HIDX.out, HZ.out]
              simp [HP.out]
            exact ⟨ret_int hr.symm, HG2.out, fun h => by omega⟩
        · have hd : ends.drop k = [] := by rw [List.drop_eq_nil_iff]; have := hEl.out; omega
          have hr : devR nodes seen name ends = if ends.length = 2 ∧ ends[0]? = ends[1]? then 3 else 0 := by
            rw [HD.out, HNM.out, HSN.out, HIDX.out, hd]
            simp
          have HR := Lib.hid hr
          clear hd hr
          by_cases hm2 : m = 2
          · subst hm2
            obtain ⟨y0, hy0⟩ : ∃ y, ends[0]? = some y := ⟨_, List.getElem?_eq_getElem (by have := hEl.out; omega)⟩
            obtain ⟨y1, hy1⟩ : ∃ y, ends[1]? = some y := ⟨_, List.getElem?_eq_getElem (by have := hEl.out; omega)⟩
            obtain ⟨bv, ov, rfl, hbv⟩ := HE2.out.form (by omega)
            have hcell0 := HE2.out.at_ hy0
            have hcell1 := HE2.out.at_ hy1
            rw [Nat.add_zero] at hcell0
            have hw0 : (0 : Int) < ((2 : Nat) : Int) := by omega
            cases hq : sEq y0 y1 with
            | true =>
              have hr : devR nodes seen name ends = 3 := by rw [HR.out, hy0, hy1, if_pos ⟨hEl.out, by rw [sEq_iff.1 hq]⟩]
              have HR2 := Lib.hid hr
              clear hy0 hy1 hr
              go_wp2_with fail
              go_quiet (fail)
              go_wp2_with fail
              go_ret
              exact ⟨ret_int HR2.out.symm, only_drewN HG2.out _, fun h => by rw [HR2.out] at h; omega⟩
            | false =>
              have hr : devR nodes seen name ends = 0 := by rw [HR.out, hy0, hy1, if_neg (fun h => sEq_ff.1 hq (by injection h.2))]
              have HR2 := Lib.hid hr
              clear hy0 hy1 hr
              go_wp2_with fail
              go_quiet (fail)
              go_wp2_with fail
              go_ret
              exact ⟨ret_int HR2.out.symm, only_drewN HG2.out _, fun _ => HS2.out.below (below_drewN (Below.refl _ _) _)⟩
          · have hr : devR nodes seen name ends = 0 := by rw [HR.out, if_neg (fun h => hm2 (by have := hEl.out; omega))]
            have HR2 := Lib.hid hr
            have hmf : ((m : Int) == 2) = false := by rw [beq_eq_false_iff_ne]; omega
            clear hr hm2
            go_wp2_with fail
            go_quiet (fail)
            go_wp2_with fail
            go_ret
            exact ⟨ret_int HR2.out.symm, only_drewN HG2.out _, fun _ => HS2.out.below (below_drewN (Below.refl _ _) _)⟩
end Go.Proofs.YtakllkkmofdpaaaGreatDoor
/- The check of a network. -/
namespace Go.Proofs.YtakllkkmofdpaaaGreatDoor
open Go.ChangeShapes Go.WideShapes Go.ChangeAt Go.RowKit Go.Joins Go.Deep Go.Maps
set_option linter.unusedVariables false
attribute [local go_sem ↓] execOp_call_val
attribute [local go_sem] callVal_func setCell_drewN alloc_drewN sEq_walk


def Gn.bad (x : Gn) : Bool := outB x.least 0 100000 || outB x.most x.least 100000 || outB x.ramp 0 100000
def Sw.bad (x : Sw) : Bool := false
def Ld.bad (x : Ld) : Bool := outB x.demand 0 100000
def St.bad (x : St) : Bool := outB x.charge 0 100000 || outB x.discharge 0 100000 || outB x.capacity 0 100000
/-- a list of devices is checked in its order -/
def ckList {α : Type} (f : List ByteArray → α → Int) (nm : α → ByteArray) : List ByteArray → List α → Int × List ByteArray
  | seen, [] => (0, seen)
  | seen, x :: r => if f seen x ≠ 0 then (f seen x, seen) else ckList f nm (nm x :: seen) r
def fNode (nodes : List ByteArray) (seen : List ByteArray) (x : ByteArray) : Int := devR nodes seen x []
def fSw (nodes : List ByteArray) (seen : List ByteArray) (x : Sw) : Int := if devR nodes seen x.name [x.a, x.b] ≠ 0 then devR nodes seen x.name [x.a, x.b] else if x.bad then 4 else 0
def fBr (nodes : List ByteArray) (seen : List ByteArray) (x : Br) : Int := if devR nodes seen x.name [x.fr, x.to] ≠ 0 then devR nodes seen x.name [x.fr, x.to] else x.ck
def fGn (nodes : List ByteArray) (seen : List ByteArray) (x : Gn) : Int := if devR nodes seen x.name [x.node] ≠ 0 then devR nodes seen x.name [x.node] else if x.bad then 4 else 0
def fLd (nodes : List ByteArray) (seen : List ByteArray) (x : Ld) : Int := if devR nodes seen x.name [x.node] ≠ 0 then devR nodes seen x.name [x.node] else if x.bad then 4 else 0
def fSt (nodes : List ByteArray) (seen : List ByteArray) (x : St) : Int := if devR nodes seen x.name [x.node] ≠ 0 then devR nodes seen x.name [x.node] else if x.bad then 4 else 0
def ck5 (x : Net) (seen : List ByteArray) : Int := (ckList (fSt x.nodes) St.name seen x.sts).1
def ck4 (x : Net) (seen : List ByteArray) : Int := if (ckList (fLd x.nodes) Ld.name seen x.lds).1 ≠ 0 then (ckList (fLd x.nodes) Ld.name seen x.lds).1 else ck5 x (ckList (fLd x.nodes) Ld.name seen x.lds).2
def ck3 (x : Net) (seen : List ByteArray) : Int := if (ckList (fGn x.nodes) Gn.name seen x.gns).1 ≠ 0 then (ckList (fGn x.nodes) Gn.name seen x.gns).1 else ck4 x (ckList (fGn x.nodes) Gn.name seen x.gns).2
def ck2 (x : Net) (seen : List ByteArray) : Int := if (ckList (fBr x.nodes) Br.name seen x.brs).1 ≠ 0 then (ckList (fBr x.nodes) Br.name seen x.brs).1 else ck3 x (ckList (fBr x.nodes) Br.name seen x.brs).2
def ck1 (x : Net) (seen : List ByteArray) : Int := if (ckList (fSw x.nodes) Sw.name seen x.sws).1 ≠ 0 then (ckList (fSw x.nodes) Sw.name seen x.sws).1 else ck2 x (ckList (fSw x.nodes) Sw.name seen x.sws).2
def ck0 (x : Net) : Int := if (ckList (fNode x.nodes) id [] x.nodes).1 ≠ 0 then (ckList (fNode x.nodes) id [] x.nodes).1 else ck1 x (ckList (fNode x.nodes) id [] x.nodes).2
def netLarge (x : Net) : Prop := 24 < x.nodes.length ∨ 32 < x.sws.length ∨ 24 < x.brs.length ∨ 10 < x.gns.length ∨ 12 < x.lds.length ∨ 4 < x.sts.length
instance (x : Net) : Decidable (netLarge x) := by unfold netLarge; infer_instance
/-- what Check answers -/
def netCk (x : Net) : Int := if netLarge x then 2 else ck0 x

theorem ckList_bad {α : Type} {f : List ByteArray → α → Int} {nm : α → ByteArray} {seen : List ByteArray} {x : α} {r l : List α} {v : Int} (hl : l = x :: r) (hf : f seen x = v) (h0 : v ≠ 0) : (ckList f nm seen l).1 = v := by
  subst hl; unfold ckList; rw [if_pos (by rw [hf]; exact h0), hf]
theorem ckList_ok {α : Type} {f : List ByteArray → α → Int} {nm : α → ByteArray} {seen : List ByteArray} {x : α} {r l : List α} (hl : l = x :: r) (h0 : f seen x = 0) : ckList f nm seen l = ckList f nm (nm x :: seen) r := by
  subst hl
  show (if f seen x ≠ 0 then _ else _) = _
  rw [if_neg (by rw [h0]; simp)]

/-- the checker at work: what it keeps while the map in block b is written -/
structure Ck (w0 wr : World) (b : Nat) (A : Option Addr) (nn : Nat) (nodes : List ByteArray) (h : NetH) (x : Net) (seen : List ByteArray) : Prop where
  gr : w0.grownBy wr (some b)
  sn : SeenM wr b seen.length seen
  rn : RdStr wr wr.heap.size A nn nodes
  net : RdNet wr wr.heap.size h x

theorem RdNet.mapped {w w' : World} {b m : Nat} {h : NetH} {x : Net} {l : List ByteArray} (r : RdNet w w.heap.size h x) (hS : SeenM w b m l) (hg : w.grownBy w' (some b)) : RdNet w' w'.heap.size h x :=
  ⟨r.r0.mapped hS hg (Nat.le_refl _) hg.size, ⟨r.r1.1, r.r1.2.mapped (by omega) hS hg (Nat.le_refl _) hg.size⟩, ⟨r.r2.1, r.r2.2.mapped (by omega) hS hg (Nat.le_refl _) hg.size⟩, ⟨r.r3.1, r.r3.2.mapped (by omega) hS hg (Nat.le_refl _) hg.size⟩,
   ⟨r.r4.1, r.r4.2.mapped (by omega) hS hg (Nat.le_refl _) hg.size⟩, ⟨r.r5.1, r.r5.2.mapped (by omega) hS hg (Nat.le_refl _) hg.size⟩, r.m0, r.m1, r.m2, r.m3, r.m4, r.m5, r.z0, r.z1, r.z2, r.z3, r.z4, r.z5⟩
theorem Ck.below {w0 w w' : World} {b : Nat} {A : Option Addr} {nn : Nat} {nodes : List ByteArray} {h : NetH} {x : Net} {seen : List ByteArray} (c : Ck w0 w b A nn nodes h x seen) (hb : Below w.heap.size w w') : Ck w0 w' b A nn nodes h x seen :=
  ⟨only_trans c.gr (only_of_below hb _), c.sn.below hb, (c.rn.below hb (Nat.le_refl _)).more hb.size, c.net.up hb⟩
theorem Ck.put {w0 w w' : World} {b : Nat} {A : Option Addr} {nn : Nat} {nodes : List ByteArray} {h : NetH} {x : Net} {seen : List ByteArray} {s : ByteArray} (c : Ck w0 w b A nn nodes h x seen) (hg : w.grownBy w' (some b)) (hS : SeenM w' b (seen.length + 1) (s :: seen)) : Ck w0 w' b A nn nodes h x (s :: seen) :=
  ⟨only_trans c.gr hg, hS, c.rn.mapped c.sn hg (Nat.le_refl _) hg.size, c.net.mapped c.sn hg⟩
theorem below2 (w : World) (o1 o2 : Obj) : Below w.heap.size w ((w.alloc o1).alloc o2) := ((Below.refl _ _).alloc (Nat.le_refl _) _).alloc (by simp) _

set_option maxRecDepth 100000 in
set_option maxHeartbeats 8000000 in
theorem ends_any (b : Nat) (A : Option Addr) (nn nc : Nat) (nodes : List ByteArray) (h : NetH) (x : Net) (seen0 : List ByteArray) (w : World)
    (hC : Ck w w b A nn nodes h x seen0) (hnn : nn ≤ 9223372036854775807) (hs0 : seen0.length ≤ 1000) (h3 : h.n3 ≤ 10) (h4 : h.n4 ≤ 12) (h5 : h.n5 ≤ 4) (hnodes : x.nodes = nodes) :
    Calls Tryz.prog 106 #[.agg #[.map (some b), .slice A nn nc], .agg h.cells] w fun e w' => e = .returned (.int .i64 (ck3 x seen0)) ∧ w.grownBy w' (some b) := by
  obtain ⟨A0, m0, c0, A1, m1, c1, A2, m2, c2, A3, m3, c3, A4, m4, c4, A5, m5, c5⟩ := h
  dsimp only [NetH.cells] at *
  have hbl := hC.sn.lt
  have hC2 := hC.below (below2 w (.cells #[.map (some b), .slice A nn nc] 161) (.cells #[.slice A0 m0 c0, .slice A1 m1 c1, .slice A2 m2 c2, .slice A3 m3 c3, .slice A4 m4 c4, .slice A5 m5 c5] 33))
  have HC := Lib.hid hC2
  have HQ1 : Hid (Blk ((w.alloc (.cells #[.map (some b), .slice A nn nc] 161)).alloc (.cells #[.slice A0 m0 c0, .slice A1 m1 c1, .slice A2 m2 c2, .slice A3 m3 c3, .slice A4 m4 c4, .slice A5 m5 c5] 33)) w.heap.size 161 #[.map (some b), .slice A nn nc]) := Lib.hid ((Blk.new w _ _).alloc _)
  have HQ2 : Hid (Blk ((w.alloc (.cells #[.map (some b), .slice A nn nc] 161)).alloc (.cells #[.slice A0 m0 c0, .slice A1 m1 c1, .slice A2 m2 c2, .slice A3 m3 c3, .slice A4 m4 c4, .slice A5 m5 c5] 33)) (w.heap.size + 1) 33 #[.slice A0 m0 c0, .slice A1 m1 c1, .slice A2 m2 c2, .slice A3 m3 c3, .slice A4 m4 c4, .slice A5 m5 c5]) := Lib.hid (Blk.new_ (by simp))
  have HNET := Lib.hid hC2.net
  obtain ⟨y0, y1, y2, y3, y4, y5, nf, nlt⟩ := net_box (h := ⟨A0, m0, c0, A1, m1, c1, A2, m2, c2, A3, m3, c3, A4, m4, c4, A5, m5, c5⟩) HQ2.out
  have HND := Lib.hid hnodes
  clear hC hC2 hnodes
  go_enter Tryz.func106, Tryz.ntmps106
  go_wp2_with fail
  have hlen3 : Hid (x.gns.length = m3) := Lib.hid HNET.out.r3.1
  go_loopw [17] (fun i wr => ∃ (k : Nat) (seen3 : List ByteArray), k ≤ m3 ∧ i = .int .i64 k ∧ Ck w wr b A nn nodes ⟨A0, m0, c0, A1, m1, c1, A2, m2, c2, A3, m3, c3, A4, m4, c4, A5, m5, c5⟩ x seen3 ∧ Blk wr w.heap.size 161 #[.map (some b), .slice A nn nc] ∧ Blk wr (w.heap.size + 1) 33 #[.slice A0 m0 c0, .slice A1 m1 c1, .slice A2 m2 c2, .slice A3 m3 c3, .slice A4 m4 c4, .slice A5 m5 c5] ∧ seen3.length ≤ seen0.length + k ∧ ckList (fGn nodes) Gn.name seen0 x.gns = ckList (fGn nodes) Gn.name seen3 (x.gns.drop k)) (fun i _ => m3 - (intOf i).toNat)
  case atStart => exact ⟨0, seen0, by omega, rfl, HC.out, HQ1.out, HQ2.out, by omega, rfl⟩
  case round =>
    clear HC HQ1 HQ2 HNET
    obtain ⟨k, seen3, hk, rfl, hC, hq1, hq2, hcnt, hgo⟩ := hrel
    have HC := Lib.hid hC
    have HQ1 := Lib.hid hq1
    have HQ2 := Lib.hid hq2
    have HGO := Lib.hid hgo
    obtain ⟨g0, g1, gf, glt⟩ := check_box hq1
    obtain ⟨y0, y1, y2, y3, y4, y5, nf, nlt⟩ := net_box (h := ⟨A0, m0, c0, A1, m1, c1, A2, m2, c2, A3, m3, c3, A4, m4, c4, A5, m5, c5⟩) hq2
    have hbw := hC.sn.lt
    have HNET := Lib.hid hC.net
    clear hC hq1 hq2 hgo
    by_cases hlt : k < m3
    · obtain ⟨z, hz⟩ : ∃ z, x.gns[k]? = some z := ⟨_, List.getElem?_eq_getElem (by have := hlen3.out; omega)⟩
      obtain ⟨bz, oz, hA, hbz⟩ := HC.out.net.r3.form (by dsimp only; omega)
      dsimp only at hA
      subst hA
      obtain ⟨e0, e1, e2, e3, e4⟩ := HC.out.net.r3.at_ hz
      have hzn := HC.out.net.z3 z (List.mem_of_getElem? hz)
      have HZ := Lib.hid (drop_cons hz)
      clear hz
      go_wp2_with fail
      have hB := below2 wr (.cells #[.string z.name, .string z.node, .int .i64 z.least, .int .i64 z.most, .int .i64 z.ramp] 141) (.cells #[.string z.node] 9)
      have hE : RdStr ((wr.alloc (.cells #[.string z.name, .string z.node, .int .i64 z.least, .int .i64 z.most, .int .i64 z.ramp] 141)).alloc (.cells #[.string z.node] 9)) ((wr.alloc (.cells #[.string z.name, .string z.node, .int .i64 z.least, .int .i64 z.most, .int .i64 z.ramp] 141)).alloc (.cells #[.string z.node] 9)).heap.size (some ⟨wr.heap.size + 1, 0, none⟩) 1 [z.node] := rdStr_lit (zs := [z.node]) (Blk.new_ (by simp)) (by simp)
      have hC2 := HC.out.below hB
      refine (device_any b _ A nn nc nodes seen3 z.name _ 1 1 [z.node] _ hC2.rn hnn hC2.sn (by omega) hzn hE (by omega)).mono ?_
      generalize hR : devR nodes seen3 z.name [z.node] = r
      rintro e w2 ⟨rfl, hg2, hS2⟩
      have hq3 : Blk w2 wr.heap.size 141 #[.string z.name, .string z.node, .int .i64 z.least, .int .i64 z.most, .int .i64 z.ramp] := Blk.grown ((Blk.new wr _ _).alloc _) hg2 (fun e => by injection e; omega)
      have hq1 : Blk w2 w.heap.size 161 #[.map (some b), .slice A nn nc] := Blk.grown (HQ1.out.below hB HQ1.out.lt) hg2 (fun e => by injection e; omega)
      have hq2 := Blk.grown (HQ2.out.below hB HQ2.out.lt) hg2 (fun e => by injection e; omega)
      have HG2 := Lib.hid (only_trans hC2.gr hg2)
      have HS2 := Lib.hid hS2
      have HC2 := Lib.hid hC2
      have Hg2 := Lib.hid hg2
      obtain ⟨f0, f1, f2, f3, f4, ff, flt⟩ := Gn.box hq3
      have HQ1' := Lib.hid hq1
      have HQ2' := Lib.hid hq2
      have HRR := Lib.hid hR
      clear hB hE hC2 hg2 hS2 hq3 hq1 hq2 hR e0 e1 e2 e3 e4
      by_cases hr0 : r = 0
      · subst hr0
        have HC3 := Lib.hid (HC2.out.put Hg2.out (HS2.out rfl))
        cases t0 : outB z.least 0 100000 with
        | true =>
          have hf : fGn nodes seen3 z = 4 := by unfold fGn Gn.bad; rw [HRR.out]; simp [t0]
          have hr : (ckList (fGn nodes) Gn.name seen0 x.gns).1 = 4 := by rw [HGO.out]; exact ckList_bad HZ.out hf (by omega)
          have HR4 := Lib.hid hr
          clear hf hr
          go_wp2_with (first | (go_at_call 138; refine (npermitted_any _ _).mono ?_; rintro e w' ⟨rfl, rfl⟩) | (go_at_call 137; refine (nout_any _ _ _ _).mono ?_; rintro e w' ⟨rfl, rfl⟩))
          go_ret
          exact ⟨ret_int (by unfold ck3; rw [HND.out, if_pos (by rw [HR4.out]; omega), HR4.out]), HG2.out⟩
        | false =>
          cases t1 : outB z.most z.least 100000 with
          | true =>
            have hf : fGn nodes seen3 z = 4 := by unfold fGn Gn.bad; rw [HRR.out]; simp [t0, t1]
            have hr : (ckList (fGn nodes) Gn.name seen0 x.gns).1 = 4 := by rw [HGO.out]; exact ckList_bad HZ.out hf (by omega)
            have HR4 := Lib.hid hr
            clear hf hr
            go_wp2_with (first | (go_at_call 138; refine (npermitted_any _ _).mono ?_; rintro e w' ⟨rfl, rfl⟩) | (go_at_call 137; refine (nout_any _ _ _ _).mono ?_; rintro e w' ⟨rfl, rfl⟩))
            go_ret
            exact ⟨ret_int (by unfold ck3; rw [HND.out, if_pos (by rw [HR4.out]; omega), HR4.out]), HG2.out⟩
          | false =>
            cases t2 : outB z.ramp 0 100000 with
            | true =>
              have hf : fGn nodes seen3 z = 4 := by unfold fGn Gn.bad; rw [HRR.out]; simp [t0, t1, t2]
              have hr : (ckList (fGn nodes) Gn.name seen0 x.gns).1 = 4 := by rw [HGO.out]; exact ckList_bad HZ.out hf (by omega)
              have HR4 := Lib.hid hr
              clear hf hr
              go_wp2_with (first | (go_at_call 138; refine (npermitted_any _ _).mono ?_; rintro e w' ⟨rfl, rfl⟩) | (go_at_call 137; refine (nout_any _ _ _ _).mono ?_; rintro e w' ⟨rfl, rfl⟩))
              go_ret
              exact ⟨ret_int (by unfold ck3; rw [HND.out, if_pos (by rw [HR4.out]; omega), HR4.out]), HG2.out⟩
            | false =>
              have hf : fGn nodes seen3 z = 0 := by unfold fGn Gn.bad; rw [HRR.out]; simp [t0, t1, t2]
              have HF := Lib.hid hf
              clear hf
              go_wp2_with (first | (go_at_call 138; refine (npermitted_any _ _).mono ?_; rintro e w' ⟨rfl, rfl⟩) | (go_at_call 137; refine (nout_any _ _ _ _).mono ?_; rintro e w' ⟨rfl, rfl⟩))
              go_roundw
              case rel => exact ⟨k + 1, z.name :: seen3, by omega, by go_num, HC3.out, HQ1'.out, HQ2'.out, by simp; omega, by rw [HGO.out]; exact ckList_ok HZ.out HF.out⟩
              case measure => simp [intOf]; omega
      · have hrb : (r != 0) = true := by simpa using hr0
        have hf : fGn nodes seen3 z = r := by unfold fGn; rw [HRR.out, if_pos hr0]
        have hr : (ckList (fGn nodes) Gn.name seen0 x.gns).1 = r := by rw [HGO.out]; exact ckList_bad HZ.out hf hr0
        have HR4 := Lib.hid hr
        have HR0 := Lib.hid hr0
        clear hf hr hr0
        go_wp2_with fail
        go_ret
        exact ⟨ret_int (by unfold ck3; rw [HND.out, if_pos (by rw [HR4.out]; exact HR0.out), HR4.out]), HG2.out⟩
    · have hd : x.gns.drop k = [] := by rw [List.drop_eq_nil_iff]; have := hlen3.out; omega
      have hr : ckList (fGn nodes) Gn.name seen0 x.gns = (0, seen3) := by rw [HGO.out, hd]; rfl
      have HL3 := Lib.hid hr
      have hcnt3 : seen3.length ≤ seen0.length + m3 := by omega
      clear hd hr hcnt
      have hlenx := HNET
      have HW4 : Hid (ck3 x seen0 = ck4 x seen3) := Lib.hid (by unfold ck3; rw [HND.out, HL3.out]; rfl)
      go_wp2_with fail
      have hlen4 : Hid (x.lds.length = m4) := Lib.hid HNET.out.r4.1
      go_loopw [52] (fun i wr => ∃ (k : Nat) (seen4 : List ByteArray), k ≤ m4 ∧ i = .int .i64 k ∧ Ck w wr b A nn nodes ⟨A0, m0, c0, A1, m1, c1, A2, m2, c2, A3, m3, c3, A4, m4, c4, A5, m5, c5⟩ x seen4 ∧ Blk wr w.heap.size 161 #[.map (some b), .slice A nn nc] ∧ Blk wr (w.heap.size + 1) 33 #[.slice A0 m0 c0, .slice A1 m1 c1, .slice A2 m2 c2, .slice A3 m3 c3, .slice A4 m4 c4, .slice A5 m5 c5] ∧ seen4.length ≤ seen3.length + k ∧ ckList (fLd nodes) Ld.name seen3 x.lds = ckList (fLd nodes) Ld.name seen4 (x.lds.drop k)) (fun i _ => m4 - (intOf i).toNat)
      case atStart => exact ⟨0, seen3, by omega, rfl, HC.out, HQ1.out, HQ2.out, by omega, rfl⟩
      case round =>
        clear HC HQ1 HQ2 HNET
        obtain ⟨k, seen4, hk, rfl, hC, hq1, hq2, hcnt, hgo⟩ := hrel
        have HC := Lib.hid hC
        have HQ1 := Lib.hid hq1
        have HQ2 := Lib.hid hq2
        have HGO := Lib.hid hgo
        obtain ⟨g0, g1, gf, glt⟩ := check_box hq1
        obtain ⟨y0, y1, y2, y3, y4, y5, nf, nlt⟩ := net_box (h := ⟨A0, m0, c0, A1, m1, c1, A2, m2, c2, A3, m3, c3, A4, m4, c4, A5, m5, c5⟩) hq2
        have hbw := hC.sn.lt
        have HNET := Lib.hid hC.net
        clear hC hq1 hq2 hgo
        by_cases hlt : k < m4
        · obtain ⟨z, hz⟩ : ∃ z, x.lds[k]? = some z := ⟨_, List.getElem?_eq_getElem (by have := hlen4.out; omega)⟩
          obtain ⟨bz, oz, hA, hbz⟩ := HC.out.net.r4.form (by dsimp only; omega)
          dsimp only at hA
          subst hA
          obtain ⟨e0, e1, e2⟩ := HC.out.net.r4.at_ hz
          have hzn := HC.out.net.z4 z (List.mem_of_getElem? hz)
          have HZ := Lib.hid (drop_cons hz)
          clear hz
          go_wp2_with fail
          have hB := below2 wr (.cells #[.string z.name, .string z.node, .int .i64 z.demand] 209) (.cells #[.string z.node] 9)
          have hE : RdStr ((wr.alloc (.cells #[.string z.name, .string z.node, .int .i64 z.demand] 209)).alloc (.cells #[.string z.node] 9)) ((wr.alloc (.cells #[.string z.name, .string z.node, .int .i64 z.demand] 209)).alloc (.cells #[.string z.node] 9)).heap.size (some ⟨wr.heap.size + 1, 0, none⟩) 1 [z.node] := rdStr_lit (zs := [z.node]) (Blk.new_ (by simp)) (by simp)
          have hC2 := HC.out.below hB
          refine (device_any b _ A nn nc nodes seen4 z.name _ 1 1 [z.node] _ hC2.rn hnn hC2.sn (by omega) hzn hE (by omega)).mono ?_
          generalize hR : devR nodes seen4 z.name [z.node] = r
          rintro e w2 ⟨rfl, hg2, hS2⟩
          have hq3 : Blk w2 wr.heap.size 209 #[.string z.name, .string z.node, .int .i64 z.demand] := Blk.grown ((Blk.new wr _ _).alloc _) hg2 (fun e => by injection e; omega)
          have hq1 : Blk w2 w.heap.size 161 #[.map (some b), .slice A nn nc] := Blk.grown (HQ1.out.below hB HQ1.out.lt) hg2 (fun e => by injection e; omega)
          have hq2 := Blk.grown (HQ2.out.below hB HQ2.out.lt) hg2 (fun e => by injection e; omega)
          have HG2 := Lib.hid (only_trans hC2.gr hg2)
          have HS2 := Lib.hid hS2
          have HC2 := Lib.hid hC2
          have Hg2 := Lib.hid hg2
          obtain ⟨f0, f1, f2, ff, flt⟩ := Ld.box hq3
          have HQ1' := Lib.hid hq1
          have HQ2' := Lib.hid hq2
          have HRR := Lib.hid hR
          clear hB hE hC2 hg2 hS2 hq3 hq1 hq2 hR e0 e1 e2
          by_cases hr0 : r = 0
          · subst hr0
            have HC3 := Lib.hid (HC2.out.put Hg2.out (HS2.out rfl))
            cases t0 : outB z.demand 0 100000 with
            | true =>
              have hf : fLd nodes seen4 z = 4 := by unfold fLd Ld.bad; rw [HRR.out]; simp [t0]
              have hr : (ckList (fLd nodes) Ld.name seen3 x.lds).1 = 4 := by rw [HGO.out]; exact ckList_bad HZ.out hf (by omega)
              have HR4 := Lib.hid hr
              clear hf hr
              go_wp2_with (first | (go_at_call 138; refine (npermitted_any _ _).mono ?_; rintro e w' ⟨rfl, rfl⟩) | (go_at_call 137; refine (nout_any _ _ _ _).mono ?_; rintro e w' ⟨rfl, rfl⟩))
              go_ret
              exact ⟨ret_int (by rw [HW4.out]; unfold ck4; rw [HND.out, if_pos (by rw [HR4.out]; omega), HR4.out]), HG2.out⟩
            | false =>
              have hf : fLd nodes seen4 z = 0 := by unfold fLd Ld.bad; rw [HRR.out]; simp [t0]
              have HF := Lib.hid hf
              clear hf
              go_wp2_with (first | (go_at_call 138; refine (npermitted_any _ _).mono ?_; rintro e w' ⟨rfl, rfl⟩) | (go_at_call 137; refine (nout_any _ _ _ _).mono ?_; rintro e w' ⟨rfl, rfl⟩))
              go_roundw
              case rel => exact ⟨k + 1, z.name :: seen4, by omega, by go_num, HC3.out, HQ1'.out, HQ2'.out, by simp; omega, by rw [HGO.out]; exact ckList_ok HZ.out HF.out⟩
              case measure => simp [intOf]; omega
          · have hrb : (r != 0) = true := by simpa using hr0
            have hf : fLd nodes seen4 z = r := by unfold fLd; rw [HRR.out, if_pos hr0]
            have hr : (ckList (fLd nodes) Ld.name seen3 x.lds).1 = r := by rw [HGO.out]; exact ckList_bad HZ.out hf hr0
            have HR4 := Lib.hid hr
            have HR0 := Lib.hid hr0
            clear hf hr hr0
            go_wp2_with fail
            go_ret
            exact ⟨ret_int (by rw [HW4.out]; unfold ck4; rw [HND.out, if_pos (by rw [HR4.out]; exact HR0.out), HR4.out]), HG2.out⟩
        · have hd : x.lds.drop k = [] := by rw [List.drop_eq_nil_iff]; have := hlen4.out; omega
          have hr : ckList (fLd nodes) Ld.name seen3 x.lds = (0, seen4) := by rw [HGO.out, hd]; rfl
          have HL4 := Lib.hid hr
          have hcnt4 : seen4.length ≤ seen3.length + m4 := by omega
          clear hd hr hcnt
          have hlenx := HNET
          have HW5 : Hid (ck3 x seen0 = ck5 x seen4) := Lib.hid (by rw [HW4.out]; unfold ck4; rw [HND.out, HL4.out]; rfl)
          go_wp2_with fail
          have hlen5 : Hid (x.sts.length = m5) := Lib.hid HNET.out.r5.1
          go_loopw [74] (fun i wr => ∃ (k : Nat) (seen5 : List ByteArray), k ≤ m5 ∧ i = .int .i64 k ∧ Ck w wr b A nn nodes ⟨A0, m0, c0, A1, m1, c1, A2, m2, c2, A3, m3, c3, A4, m4, c4, A5, m5, c5⟩ x seen5 ∧ Blk wr w.heap.size 161 #[.map (some b), .slice A nn nc] ∧ Blk wr (w.heap.size + 1) 33 #[.slice A0 m0 c0, .slice A1 m1 c1, .slice A2 m2 c2, .slice A3 m3 c3, .slice A4 m4 c4, .slice A5 m5 c5] ∧ seen5.length ≤ seen4.length + k ∧ ckList (fSt nodes) St.name seen4 x.sts = ckList (fSt nodes) St.name seen5 (x.sts.drop k)) (fun i _ => m5 - (intOf i).toNat)
          case atStart => exact ⟨0, seen4, by omega, rfl, HC.out, HQ1.out, HQ2.out, by omega, rfl⟩
          case round =>
            clear HC HQ1 HQ2 HNET
            obtain ⟨k, seen5, hk, rfl, hC, hq1, hq2, hcnt, hgo⟩ := hrel
            have HC := Lib.hid hC
            have HQ1 := Lib.hid hq1
            have HQ2 := Lib.hid hq2
            have HGO := Lib.hid hgo
            obtain ⟨g0, g1, gf, glt⟩ := check_box hq1
            obtain ⟨y0, y1, y2, y3, y4, y5, nf, nlt⟩ := net_box (h := ⟨A0, m0, c0, A1, m1, c1, A2, m2, c2, A3, m3, c3, A4, m4, c4, A5, m5, c5⟩) hq2
            have hbw := hC.sn.lt
            have HNET := Lib.hid hC.net
            clear hC hq1 hq2 hgo
            by_cases hlt : k < m5
            · obtain ⟨z, hz⟩ : ∃ z, x.sts[k]? = some z := ⟨_, List.getElem?_eq_getElem (by have := hlen5.out; omega)⟩
              obtain ⟨bz, oz, hA, hbz⟩ := HC.out.net.r5.form (by dsimp only; omega)
              dsimp only at hA
              subst hA
              obtain ⟨e0, e1, e2, e3, e4⟩ := HC.out.net.r5.at_ hz
              have hzn := HC.out.net.z5 z (List.mem_of_getElem? hz)
              have HZ := Lib.hid (drop_cons hz)
              clear hz
              go_wp2_with fail
              have hB := below2 wr (.cells #[.string z.name, .string z.node, .int .i64 z.charge, .int .i64 z.discharge, .int .i64 z.capacity] 211) (.cells #[.string z.node] 9)
              have hE : RdStr ((wr.alloc (.cells #[.string z.name, .string z.node, .int .i64 z.charge, .int .i64 z.discharge, .int .i64 z.capacity] 211)).alloc (.cells #[.string z.node] 9)) ((wr.alloc (.cells #[.string z.name, .string z.node, .int .i64 z.charge, .int .i64 z.discharge, .int .i64 z.capacity] 211)).alloc (.cells #[.string z.node] 9)).heap.size (some ⟨wr.heap.size + 1, 0, none⟩) 1 [z.node] := rdStr_lit (zs := [z.node]) (Blk.new_ (by simp)) (by simp)
              have hC2 := HC.out.below hB
              refine (device_any b _ A nn nc nodes seen5 z.name _ 1 1 [z.node] _ hC2.rn hnn hC2.sn (by omega) hzn hE (by omega)).mono ?_
              generalize hR : devR nodes seen5 z.name [z.node] = r
              rintro e w2 ⟨rfl, hg2, hS2⟩
              have hq3 : Blk w2 wr.heap.size 211 #[.string z.name, .string z.node, .int .i64 z.charge, .int .i64 z.discharge, .int .i64 z.capacity] := Blk.grown ((Blk.new wr _ _).alloc _) hg2 (fun e => by injection e; omega)
              have hq1 : Blk w2 w.heap.size 161 #[.map (some b), .slice A nn nc] := Blk.grown (HQ1.out.below hB HQ1.out.lt) hg2 (fun e => by injection e; omega)
              have hq2 := Blk.grown (HQ2.out.below hB HQ2.out.lt) hg2 (fun e => by injection e; omega)
              have HG2 := Lib.hid (only_trans hC2.gr hg2)
              have HS2 := Lib.hid hS2
              have HC2 := Lib.hid hC2
              have Hg2 := Lib.hid hg2
              obtain ⟨f0, f1, f2, f3, f4, ff, flt⟩ := St.box hq3
              have HQ1' := Lib.hid hq1
              have HQ2' := Lib.hid hq2
              have HRR := Lib.hid hR
              clear hB hE hC2 hg2 hS2 hq3 hq1 hq2 hR e0 e1 e2 e3 e4
              by_cases hr0 : r = 0
              · subst hr0
                have HC3 := Lib.hid (HC2.out.put Hg2.out (HS2.out rfl))
                cases t0 : outB z.charge 0 100000 with
                | true =>
                  have hf : fSt nodes seen5 z = 4 := by unfold fSt St.bad; rw [HRR.out]; simp [t0]
                  have hr : (ckList (fSt nodes) St.name seen4 x.sts).1 = 4 := by rw [HGO.out]; exact ckList_bad HZ.out hf (by omega)
                  have HR4 := Lib.hid hr
                  clear hf hr
                  go_wp2_with (first | (go_at_call 138; refine (npermitted_any _ _).mono ?_; rintro e w' ⟨rfl, rfl⟩) | (go_at_call 137; refine (nout_any _ _ _ _).mono ?_; rintro e w' ⟨rfl, rfl⟩))
                  go_ret
                  exact ⟨ret_int (by rw [HW5.out]; unfold ck5; rw [HND.out, HR4.out]), HG2.out⟩
                | false =>
                  cases t1 : outB z.discharge 0 100000 with
                  | true =>
                    have hf : fSt nodes seen5 z = 4 := by unfold fSt St.bad; rw [HRR.out]; simp [t0, t1]
                    have hr : (ckList (fSt nodes) St.name seen4 x.sts).1 = 4 := by rw [HGO.out]; exact ckList_bad HZ.out hf (by omega)
                    have HR4 := Lib.hid hr
                    clear hf hr
                    go_wp2_with (first | (go_at_call 138; refine (npermitted_any _ _).mono ?_; rintro e w' ⟨rfl, rfl⟩) | (go_at_call 137; refine (nout_any _ _ _ _).mono ?_; rintro e w' ⟨rfl, rfl⟩))
                    go_ret
                    exact ⟨ret_int (by rw [HW5.out]; unfold ck5; rw [HND.out, HR4.out]), HG2.out⟩
                  | false =>
                    cases t2 : outB z.capacity 0 100000 with
                    | true =>
                      have hf : fSt nodes seen5 z = 4 := by unfold fSt St.bad; rw [HRR.out]; simp [t0, t1, t2]
                      have hr : (ckList (fSt nodes) St.name seen4 x.sts).1 = 4 := by rw [HGO.out]; exact ckList_bad HZ.out hf (by omega)
                      have HR4 := Lib.hid hr
                      clear hf hr
                      go_wp2_with (first | (go_at_call 138; refine (npermitted_any _ _).mono ?_; rintro e w' ⟨rfl, rfl⟩) | (go_at_call 137; refine (nout_any _ _ _ _).mono ?_; rintro e w' ⟨rfl, rfl⟩))
                      go_ret
                      exact ⟨ret_int (by rw [HW5.out]; unfold ck5; rw [HND.out, HR4.out]), HG2.out⟩
                    | false =>
                      have hf : fSt nodes seen5 z = 0 := by unfold fSt St.bad; rw [HRR.out]; simp [t0, t1, t2]
                      have HF := Lib.hid hf
                      clear hf
                      go_wp2_with (first | (go_at_call 138; refine (npermitted_any _ _).mono ?_; rintro e w' ⟨rfl, rfl⟩) | (go_at_call 137; refine (nout_any _ _ _ _).mono ?_; rintro e w' ⟨rfl, rfl⟩))
                      go_roundw
                      case rel => exact ⟨k + 1, z.name :: seen5, by omega, by go_num, HC3.out, HQ1'.out, HQ2'.out, by simp; omega, by rw [HGO.out]; exact ckList_ok HZ.out HF.out⟩
                      case measure => simp [intOf]; omega
              · have hrb : (r != 0) = true := by simpa using hr0
                have hf : fSt nodes seen5 z = r := by unfold fSt; rw [HRR.out, if_pos hr0]
                have hr : (ckList (fSt nodes) St.name seen4 x.sts).1 = r := by rw [HGO.out]; exact ckList_bad HZ.out hf hr0
                have HR4 := Lib.hid hr
                have HR0 := Lib.hid hr0
                clear hf hr hr0
                go_wp2_with fail
                go_ret
                exact ⟨ret_int (by rw [HW5.out]; unfold ck5; rw [HND.out, HR4.out]), HG2.out⟩
            · have hd : x.sts.drop k = [] := by rw [List.drop_eq_nil_iff]; have := hlen5.out; omega
              have hr : ckList (fSt nodes) St.name seen4 x.sts = (0, seen5) := by rw [HGO.out, hd]; rfl
              have HL5 := Lib.hid hr
              have hcnt5 : seen5.length ≤ seen4.length + m5 := by omega
              clear hd hr hcnt
              have hlenx := HNET
              go_wp2_with fail
              go_ret
              exact ⟨ret_int (by rw [HW5.out]; unfold ck5; rw [HND.out, HL5.out]), HC.out.gr⟩
end Go.Proofs.YtakllkkmofdpaaaGreatDoor
/- What a valid network is. -/
namespace Go.Proofs.YtakllkkmofdpaaaGreatDoor
open Go.ChangeShapes Go.WideShapes Go.ChangeAt Go.RowKit
set_option linter.unusedVariables false

theorem ckList_all {α : Type} {f : List ByteArray → α → Int} {nm : α → ByteArray} : ∀ (l : List α) (seen : List ByteArray), (ckList f nm seen l).1 = 0 → ∀ x ∈ l, ∃ s, f s x = 0
  | [], _, _, x, hx => by simp at hx
  | y :: r, seen, h, x, hx => by
    unfold ckList at h
    split at h
    · rename_i h0; exact absurd h h0
    · rename_i h0
      have h0' : f seen y = 0 := Decidable.not_not.1 h0
      rcases List.mem_cons.1 hx with rfl | hx
      · exact ⟨seen, h0'⟩
      · exact ckList_all r _ h x hx
theorem devR_ok {nodes seen ends : List ByteArray} {name : ByteArray} (h : devR nodes seen name ends = 0) : nameB name = true ∧ (∀ s ∈ ends, s ∈ nodes) ∧ ¬ (ends.length = 2 ∧ ends[0]? = ends[1]?) ∧ ¬ (seen.any (fun x => sEq name x) = true) := by
  unfold devR at h
  split at h
  · omega
  · rename_i h1
    split at h
    · omega
    · rename_i h2
      split at h
      · omega
      · rename_i h3
        split at h
        · omega
        · rename_i h4
          refine ⟨by cases hn : nameB name <;> simp_all, fun s hs => ?_, h4, h2⟩
          apply Classical.byContradiction
          intro hns
          apply h3
          rw [List.any_eq_true]
          refine ⟨s, hs, ?_⟩
          have : nodes.any (fun x => sEq s x) = false := by
            rw [List.any_eq_false]
            intro y hy hsy
            exact hns (by rw [sEq_iff.1 hsy]; exact hy)
          rw [this]; rfl

structure NetOk (x : Net) : Prop where
  l0 : x.nodes.length ≤ 24
  l1 : x.sws.length ≤ 32
  l2 : x.brs.length ≤ 24
  l3 : x.gns.length ≤ 10
  l4 : x.lds.length ≤ 12
  l5 : x.sts.length ≤ 4
  sw : ∀ s ∈ x.sws, s.a ∈ x.nodes ∧ s.b ∈ x.nodes ∧ s.a ≠ s.b
  br : ∀ b ∈ x.brs, b.fr ∈ x.nodes ∧ b.to ∈ x.nodes ∧ b.fr ≠ b.to ∧ b.bad = false
  gn : ∀ g ∈ x.gns, g.node ∈ x.nodes ∧ g.bad = false
  ld : ∀ g ∈ x.lds, g.node ∈ x.nodes ∧ g.bad = false
  st : ∀ g ∈ x.sts, g.node ∈ x.nodes ∧ g.bad = false

theorem netCk_ok {x : Net} (h : netCk x = 0) : NetOk x := by
  unfold netCk at h
  split at h
  · omega
  · rename_i hl
    unfold netLarge at hl
    unfold ck0 at h
    split at h
    · rename_i h0; exact absurd h h0
    · unfold ck1 at h
      split at h
      · rename_i h0; exact absurd h h0
      · rename_i h1
        unfold ck2 at h
        split at h
        · rename_i h0; exact absurd h h0
        · rename_i h2
          unfold ck3 at h
          split at h
          · rename_i h0; exact absurd h h0
          · rename_i h3
            unfold ck4 at h
            split at h
            · rename_i h0; exact absurd h h0
            · rename_i h4
              unfold ck5 at h
              have a1 := ckList_all _ _ (Decidable.not_not.1 h1)
              have a2 := ckList_all _ _ (Decidable.not_not.1 h2)
              have a3 := ckList_all _ _ (Decidable.not_not.1 h3)
              have a4 := ckList_all _ _ (Decidable.not_not.1 h4)
              have a5 := ckList_all _ _ h
              refine ⟨by omega, by omega, by omega, by omega, by omega, by omega, fun s hs => ?_, fun s hs => ?_, fun s hs => ?_, fun s hs => ?_, fun s hs => ?_⟩
              · obtain ⟨sn, hf⟩ := a1 s hs
                unfold fSw at hf
                split at hf
                · rename_i h0; exact absurd hf h0
                · rename_i h0
                  obtain ⟨_, q2, q3, _⟩ := devR_ok (Decidable.not_not.1 h0)
                  exact ⟨q2 _ (by simp), q2 _ (by simp), fun e => q3 ⟨rfl, by simp [e]⟩⟩
              · obtain ⟨sn, hf⟩ := a2 s hs
                unfold fBr at hf
                split at hf
                · rename_i h0; exact absurd hf h0
                · rename_i h0
                  obtain ⟨_, q2, q3, _⟩ := devR_ok (Decidable.not_not.1 h0)
                  refine ⟨q2 _ (by simp), q2 _ (by simp), fun e => q3 ⟨rfl, by simp [e]⟩, ?_⟩
                  unfold Br.ck at hf
                  cases hb : s.bad <;> simp_all
              · obtain ⟨sn, hf⟩ := a3 s hs
                unfold fGn at hf
                split at hf
                · rename_i h0; exact absurd hf h0
                · rename_i h0
                  obtain ⟨_, q2, q3, _⟩ := devR_ok (Decidable.not_not.1 h0)
                  refine ⟨q2 _ (by simp), ?_⟩
                  cases hb : s.bad <;> simp_all
              · obtain ⟨sn, hf⟩ := a4 s hs
                unfold fLd at hf
                split at hf
                · rename_i h0; exact absurd hf h0
                · rename_i h0
                  obtain ⟨_, q2, q3, _⟩ := devR_ok (Decidable.not_not.1 h0)
                  refine ⟨q2 _ (by simp), ?_⟩
                  cases hb : s.bad <;> simp_all
              · obtain ⟨sn, hf⟩ := a5 s hs
                unfold fSt at hf
                split at hf
                · rename_i h0; exact absurd hf h0
                · rename_i h0
                  obtain ⟨_, q2, q3, _⟩ := devR_ok (Decidable.not_not.1 h0)
                  refine ⟨q2 _ (by simp), ?_⟩
                  cases hb : s.bad <;> simp_all
theorem outB_false {n low high : Int} (h : outB n low high = false) : low ≤ n ∧ n ≤ high := by
  unfold outB at h; rw [decide_eq_false_iff_not] at h; omega
theorem Br.good {b : Br} (h : b.bad = false) : 1 ≤ b.x ∧ b.x ≤ 10000 ∧ 500 ≤ b.tap ∧ b.tap ≤ 1500 ∧ -1000 ≤ b.shift ∧ b.shift ≤ 1000 ∧ 0 ≤ b.limit ∧ b.limit ≤ b.short ∧ b.short ≤ 100000 ∧ 0 ≤ b.hold ∧ b.hold ≤ 200000 := by
  unfold Br.bad at h
  simp only [Bool.or_eq_false_iff] at h
  obtain ⟨⟨⟨⟨⟨h1, h2⟩, h3⟩, h4⟩, h5⟩, h6⟩ := h
  have := outB_false h1; have := outB_false h2; have := outB_false h3; have := outB_false h4; have := outB_false h5; have := outB_false h6
  omega
/-- the place of a node in the list of nodes -/
def ndIdx (nodes : List ByteArray) (s : ByteArray) : Nat := (idxGo (fun x => sEq s x) nodes 0).toNat
theorem ndIdx_ok {nodes : List ByteArray} {s : ByteArray} (h : s ∈ nodes) : idxGo (fun x => sEq s x) nodes 0 = (ndIdx nodes s : Int) ∧ ndIdx nodes s < nodes.length := by
  rcases idxGo_spec (fun x => sEq s x) nodes 0 with ⟨h1, h2⟩ | ⟨i, y, h1, h2, h3, _⟩
  · exact absurd rfl (sEq_ff.1 (h2 s h))
  · unfold ndIdx
    rw [h1]
    have := (List.getElem?_eq_some_iff.1 h2).1
    exact ⟨by simp, by simpa using this⟩
end Go.Proofs.YtakllkkmofdpaaaGreatDoor
/- The names of a checked network are all different. -/
namespace Go.Proofs.YtakllkkmofdpaaaGreatDoor
open Go.ChangeShapes Go.WideShapes Go.ChangeAt Go.RowKit
set_option linter.unusedVariables false

theorem not_seen {seen : List ByteArray} {s : ByteArray} (h : ¬ (seen.any (fun x => sEq s x) = true)) : s ∉ seen := fun hm => h (List.any_eq_true.2 ⟨s, hm, sEq_iff.2 rfl⟩)
theorem ckList_nodup {α : Type} {f : List ByteArray → α → Int} {nm : α → ByteArray} (hf : ∀ seen x, f seen x = 0 → nm x ∉ seen) : ∀ (l : List α) (seen : List ByteArray), (ckList f nm seen l).1 = 0 → (ckList f nm seen l).2 = (l.map nm).reverse ++ seen ∧ (seen.Nodup → (ckList f nm seen l).2.Nodup)
  | [], seen, _ => ⟨rfl, fun h => h⟩
  | x :: l, seen, h => by
    unfold ckList at h ⊢
    by_cases h0 : f seen x = 0
    · rw [if_neg (by simp [h0])] at h ⊢
      obtain ⟨h1, h2⟩ := ckList_nodup hf l (nm x :: seen) h
      exact ⟨by rw [h1]; simp, fun hn => h2 (List.nodup_cons.2 ⟨hf seen x h0, hn⟩)⟩
    · rw [if_pos h0] at h; exact absurd h h0
theorem fNode_seen {nodes : List ByteArray} (seen : List ByteArray) (x : ByteArray) (h : fNode nodes seen x = 0) : id x ∉ seen := not_seen (devR_ok h).2.2.2
theorem fSw_seen {nodes : List ByteArray} (seen : List ByteArray) (x : Sw) (h : fSw nodes seen x = 0) : x.name ∉ seen := by
  unfold fSw at h
  split at h
  · rename_i h0; exact absurd h h0
  · rename_i h0; exact not_seen (devR_ok (Decidable.not_not.1 h0)).2.2.2
theorem fBr_seen {nodes : List ByteArray} (seen : List ByteArray) (x : Br) (h : fBr nodes seen x = 0) : x.name ∉ seen := by
  unfold fBr at h
  split at h
  · rename_i h0; exact absurd h h0
  · rename_i h0; exact not_seen (devR_ok (Decidable.not_not.1 h0)).2.2.2
theorem nodup_rev {l : List ByteArray} (h : l.reverse.Nodup) : l.Nodup := (List.Perm.nodup_iff (List.reverse_perm l)).1 h
/-- nodes, switches and branches have different names -/
theorem netCk_names {x : Net} (h : netCk x = 0) : ((x.brs.map Br.name).reverse ++ ((x.sws.map Sw.name).reverse ++ (x.nodes.reverse ++ []))).Nodup := by
  unfold netCk at h
  split at h
  · omega
  · unfold ck0 at h
    split at h
    · rename_i h0; exact absurd h h0
    · rename_i h0
      obtain ⟨a1, a2⟩ := ckList_nodup (fNode_seen (nodes := x.nodes)) x.nodes [] (Decidable.not_not.1 h0)
      unfold ck1 at h
      split at h
      · rename_i h0; exact absurd h h0
      · rename_i h1
        obtain ⟨b1, b2⟩ := ckList_nodup (fSw_seen (nodes := x.nodes)) x.sws _ (Decidable.not_not.1 h1)
        unfold ck2 at h
        split at h
        · rename_i h0; exact absurd h h0
        · rename_i h2
          obtain ⟨c1, c2⟩ := ckList_nodup (fBr_seen (nodes := x.nodes)) x.brs _ (Decidable.not_not.1 h2)
          have h3 := c2 (b2 (a2 .nil))
          rw [c1, b1, a1, List.map_id] at h3
          exact h3
structure Names (x : Net) : Prop where
  sws : (x.sws.map Sw.name).Nodup
  brs : (x.brs.map Br.name).Nodup
  sb : ∀ s ∈ x.sws, ∀ b ∈ x.brs, s.name ≠ b.name
  sn : ∀ s ∈ x.sws, s.name ∉ x.nodes
  nd : x.nodes.Nodup
theorem netCk_nm {x : Net} (h : netCk x = 0) : Names x := by
  have h1 := netCk_names h
  rw [List.nodup_append] at h1
  obtain ⟨h2, h3, h4⟩ := h1
  rw [List.nodup_append] at h3
  obtain ⟨h5, h6, h7⟩ := h3
  refine ⟨nodup_rev h5, nodup_rev h2, fun s hs b hb e => ?_, fun s hs hn => ?_, nodup_rev (by rw [List.append_nil] at h6; exact h6)⟩
  · exact h4 b.name (by simp; exact ⟨b, hb, rfl⟩) s.name (List.mem_append_left _ (by simp; exact ⟨s, hs, rfl⟩)) e.symm
  · exact h7 s.name (by simp; exact ⟨s, hs, rfl⟩) s.name (by simpa using hn) rfl
end Go.Proofs.YtakllkkmofdpaaaGreatDoor
/- The fixed example: a feeder. -/
namespace Go.Proofs.YtakllkkmofdpaaaGreatDoor
open Go.ChangeShapes Go.WideShapes Go.ChangeAt Go.RowKit Go.Joins Go.Deep
set_option linter.unusedVariables false
attribute [local go_sem ↓] execOp_call_val
attribute [local go_sem] callVal_func setCell_drewN alloc_drewN sEq_walk NetH.cells

def fdNet : Net where
  nodes := [⟨#[65]⟩, ⟨#[66]⟩, ⟨#[67]⟩, ⟨#[68]⟩, ⟨#[69]⟩]
  sws := [⟨⟨#[83]⟩, ⟨#[65]⟩, ⟨#[66]⟩, true, false⟩, ⟨⟨#[84]⟩, ⟨#[67]⟩, ⟨#[68]⟩, true, false⟩]
  brs := [⟨⟨#[76]⟩, ⟨#[66]⟩, ⟨#[67]⟩, 1000, 1000, 0, 0, 0, 0⟩, ⟨⟨#[77]⟩, ⟨#[68]⟩, ⟨#[69]⟩, 1000, 1000, 0, 0, 0, 0⟩]
  gns := [⟨⟨#[71]⟩, ⟨#[65]⟩, 0, 9, 0⟩]
  lds := []
  sts := []
theorem rd_lit {w : World} {B g size n : Nat} {T : TypeId} {vs : List Value} (h : Blk w g T vs.toArray) (hl : vs.length = n * size) (hg : g < B) : Rd w B size (some ⟨g, 0, none⟩) n vs :=
  ⟨hl, fun _ => ⟨g, 0, rfl, hg, fun j u hu => by
    rw [show (⟨g, 0 + j, none⟩ : Addr) = ⟨g, j, none⟩ from by simp]
    rw [h.cell j]
    simpa using hu⟩⟩

set_option maxHeartbeats 1000000 in
theorem feeder_any (w : World) :
    Calls Tryz.prog 43 #[] w fun e w' => ∃ h : NetH, e = .returned (.agg h.cells) ∧ RdNet w' w'.heap.size h fdNet ∧ Below w.heap.size w w' := by
  go_enter Tryz.func43, Tryz.ntmps43
  go_wp2_with fail
  refine bodyPost_ret (v := .agg (NetH.cells ⟨some ⟨w.heap.size + 1, 0, none⟩, 5, 5, some ⟨w.heap.size + 1 + 1, 0, none⟩, 2, 2, some ⟨w.heap.size + 1 + 1 + 1, 0, none⟩, 2, 2, some ⟨w.heap.size + 1 + 1 + 1 + 1, 0, none⟩, 1, 1, none, 0, 0, none, 0, 0⟩)) (by simp [results, Tryz.results43, go_sem]) rfl ⟨_, rfl, ?_, ?_⟩
  · have f4 : ∀ (W : World), RdLd W W.heap.size none 0 [] := fun W => ⟨rfl, rfl, fun h => absurd h (by decide)⟩
    have f5 : ∀ (W : World), RdSt W W.heap.size none 0 [] := fun W => ⟨rfl, rfl, fun h => absurd h (by decide)⟩
    have hz0 : ∀ s ∈ fdNet.nodes, s.size ≤ maxLen := by decide +kernel
    have hz1 : ∀ s ∈ fdNet.sws, s.name.size ≤ maxLen := by decide +kernel
    have hz2 : ∀ s ∈ fdNet.brs, s.name.size ≤ maxLen := by decide +kernel
    have hz3 : ∀ s ∈ fdNet.gns, s.name.size ≤ maxLen := by decide +kernel
    have hz4 : ∀ s ∈ fdNet.lds, s.name.size ≤ maxLen := by decide +kernel
    have hz5 : ∀ s ∈ fdNet.sts, s.name.size ≤ maxLen := by decide +kernel
    refine ⟨rdStr_lit (zs := fdNet.nodes) (T := 9) ?_ (by simp), ⟨rfl, rd_lit (vs := fdNet.sws.flatMap Sw.cells) (T := 139) ?_ rfl (by simp)⟩, ⟨rfl, rd_lit (vs := fdNet.brs.flatMap Br.cells) (T := 70) ?_ rfl (by simp)⟩, ⟨rfl, rd_lit (vs := fdNet.gns.flatMap Gn.cells) (T := 141) ?_ rfl (by simp)⟩, f4 _, f5 _,
      by simp, by simp, by simp, by simp, by simp, by simp, hz0, hz1, hz2, hz3, hz4, hz5⟩
    · exact (((Blk.new_ (by simp)).alloc _).alloc _).alloc _
    · exact ((Blk.new_ (by simp)).alloc _).alloc _
    · exact (Blk.new_ (by simp)).alloc _
    · exact Blk.new_ (by simp)
  · exact (((((Below.refl _ _).alloc (Nat.le_refl _) _).alloc (by simp) _).alloc (by simp; omega) _).alloc (by simp; omega) _).alloc (by simp; omega) _


end Go.Proofs.YtakllkkmofdpaaaGreatDoor
