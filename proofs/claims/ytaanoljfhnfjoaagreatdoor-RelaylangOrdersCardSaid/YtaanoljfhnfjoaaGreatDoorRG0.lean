/- relaylang.text: the closure of an operand. -/
import Derived.Test.YtaanoljfhnfjoaaGreatDoorRF4
import Derived.Test.YtaanoljfhnfjoaaGreatDoorRF6
import Derived.Test.YtaanoljfhnfjoaaGreatDoorD9
namespace Go.Proofs.YtaanoljfhnfjoaaGreatDoor
open Go.ChangeShapes Go.WideShapes Go.ChangeAt Go.RowKit
set_option linter.unusedVariables false
set_option linter.unusedSimpArgs false
attribute [local go_sem ↓] execOp_call_val
attribute [local go_sem] callVal_func setCell_drewN alloc_drewN sEq_walk

def Tr.op : Tr → Int
  | .flag _ => 0
  | .gt _ _ => 1
  | .lt _ _ => 2
  | .not _ => 3
  | .and _ _ => 4
  | .or _ _ => 5
  | .delay _ _ => 6
  | .latch _ _ => 7
/-- the node at the head of a tree -/
def Tr.hd : Tr → Nd
  | .flag s => ⟨0, s, 0⟩
  | .gt s v => ⟨1, s, v⟩
  | .lt s v => ⟨2, s, v⟩
  | .not _ => ⟨3, ⟨#[]⟩, 0⟩
  | .and _ _ => ⟨4, ⟨#[]⟩, 0⟩
  | .or _ _ => ⟨5, ⟨#[]⟩, 0⟩
  | .delay v _ => ⟨6, ⟨#[]⟩, v⟩
  | .latch _ _ => ⟨7, ⟨#[]⟩, 0⟩
theorem Tr.hd_op : ∀ t : Tr, t.hd.op = t.op
  | .flag _ => rfl
  | .gt _ _ => rfl
  | .lt _ _ => rfl
  | .not _ => rfl
  | .and _ _ => rfl
  | .or _ _ => rfl
  | .delay _ _ => rfl
  | .latch _ _ => rfl
theorem Tr.flat_hd : ∀ t : Tr, ∃ r, t.flat = t.hd :: r
  | .flag _ => ⟨_, rfl⟩
  | .gt _ _ => ⟨_, rfl⟩
  | .lt _ _ => ⟨_, rfl⟩
  | .not _ => ⟨_, rfl⟩
  | .and _ _ => ⟨_, rfl⟩
  | .or _ _ => ⟨_, rfl⟩
  | .delay _ _ => ⟨_, rfl⟩
  | .latch _ _ => ⟨_, rfl⟩
/-- the tree stands at the place a -/
def TrAt (xs : List Nd) (a : Nat) (t : Tr) : Prop := ∃ r, xs.drop a = t.flat ++ r
theorem TrAt.hd {xs : List Nd} {a : Nat} {t : Tr} (h : TrAt xs a t) : xs[a]? = some t.hd ∧ a < xs.length := by
  obtain ⟨r, h⟩ := h
  obtain ⟨q, hq⟩ := t.flat_hd
  rw [hq] at h
  have h0 : (xs.drop a)[0]? = some t.hd := by rw [h]; rfl
  rw [List.getElem?_drop, Nat.add_zero] at h0
  exact ⟨h0, (List.getElem?_eq_some_iff.1 h0).1⟩
theorem TrAt.le {xs : List Nd} {a : Nat} {t : Tr} (h : TrAt xs a t) : a + t.flat.length ≤ xs.length := by
  have hl := h.hd.2
  obtain ⟨r, h⟩ := h
  have := congrArg List.length h
  rw [List.length_drop, List.length_append] at this
  omega
theorem TrAt.sub {xs : List Nd} {a : Nat} {x : Nd} {q r : List Nd} {t : Tr} (h : xs.drop a = (x :: (t.flat ++ q)) ++ r) : TrAt xs (a + 1) t := ⟨q ++ r, by
  rw [← List.drop_drop, h]
  simp⟩
theorem TrAt.sub2 {xs : List Nd} {a : Nat} {x : Nd} {r : List Nd} {t u : Tr} (h : xs.drop a = (x :: (t.flat ++ u.flat)) ++ r) : TrAt xs (a + 1 + t.flat.length) u := ⟨r, by
  rw [← List.drop_drop, ← List.drop_drop, h]
  simp⟩
theorem Rd.far {w : World} {B size n : Nat} {A : Option Addr} {xs : List Value} (h : Rd w B size A n xs) {p : Addr} (u : Value) (hp : ∀ b off, A = some ⟨b, off, none⟩ → b ≠ p.block) : Rd (w.setCell p u) B size A n xs :=
  ⟨h.1, fun hn => by
    obtain ⟨b, off, e, hlt, hc⟩ := h.2 hn
    exact ⟨b, off, e, hlt, fun j v hv => (World.cell?_of_block (a := ⟨b, off + j, none⟩) (Below.heap_setCell w p u b (hp b off e))).trans (hc j v hv)⟩⟩
/-- what text does at a tree -/
def TextOk (t : Tr) : Prop := ∀ (A : Option Addr) (n c : Nat) (xs : List Nd) (a : Nat) (w : World), RdNd w w.heap.size A n xs → n ≤ 64 → (∀ x ∈ xs, 0 ≤ x.value ∧ x.value ≤ 1000000) → TrAt xs a t → (t.pr NM).length ≤ 100000 → EnvJ w →
  Calls Tryz.prog 19 #[.slice A n c, .int .i64 a] w fun e w' => e = .returned (.tuple #[.string (bsB (t.pr NM)), .int .i64 ((a + t.flat.length : Nat) : Int)]) ∧ Below w.heap.size w w'
/-- what the closure of an operand does -/
def OpndE (t : Tr) (zs : List Int) (a pa : Nat) (w : World) (e : Ending) (w' : World) : Prop := e = .returned (.string (bsB (paren (zs.any (fun x => decide (t.op = x))) (t.pr NM)))) ∧ w.grownBy w' (some pa) ∧ Blk w' pa 3 #[.int .i64 ((a + t.flat.length : Nat) : Int)]
set_option maxRecDepth 100000 in
set_option maxHeartbeats 4000000 in
theorem operand_any (t : Tr) (hT : TextOk t) (A O : Option Addr) (n c m d : Nat) (xs : List Nd) (zs : List Int) (a pl pa B : Nat) (w : World) (hR : RdNd w B A n xs) (hn : n ≤ 64) (hv : ∀ x ∈ xs, 0 ≤ x.value ∧ x.value ≤ 1000000) (hat : TrAt xs a t)
    (hl : Blk w pl 37 #[.slice A n c]) (ha : Blk w pa 3 #[.int .i64 a]) (hO : RdI w w.heap.size O m zs) (hOp : ∀ b off, O = some ⟨b, off, none⟩ → b ≠ pa) (hm : m ≤ 100) (hB : B ≤ pl) (hB2 : B ≤ pa) (hne : pl ≠ pa) (hz : (t.pr NM).length ≤ 100000) (hE : EnvG w B) :
    Calls Tryz.prog 35 #[.slice O m d, .pointer (some ⟨pl, 0, none⟩), .pointer (some ⟨pa, 0, none⟩)] w (OpndE t zs a pa w) := by
  have HQ : Hid (∀ e w', OpndE t zs a pa w e w' = (e = .returned (.string (bsB (paren (zs.any (fun x => decide (t.op = x))) (t.pr NM)))) ∧ w.grownBy w' (some pa) ∧ Blk w' pa 3 #[.int .i64 ((a + t.flat.length : Nat) : Int)])) := Lib.hid fun _ _ => rfl
  have HZ := Lib.hid hz
  obtain ⟨hx, hal⟩ := hat.hd
  have hlen := hR.1
  have hRw := hR.more (B' := w.heap.size) (Nat.le_of_lt (Nat.lt_of_le_of_lt hB hl.lt))
  obtain ⟨b, off, rfl, hbB⟩ := hR.form (by omega)
  obtain ⟨x0, x1, x2⟩ := hR.at_ hx
  rw [t.hd_op] at x0
  have l0 := hl.cell 0
  have ll := hl.lt
  have a0 := ha.cell 0
  have alt := ha.lt
  have af := ha.frozen
  have HR := Lib.hid hRw
  have HT := Lib.hid hT
  have HV := Lib.hid hv
  have HAT := Lib.hid hat
  have HO := Lib.hid hO
  have HE := Lib.hid hE
  have HPA := Lib.hid ha
  have haI : (a : Int) < (n : Int) := by omega
  clear hz hR hRw hT hv hat hl ha hO hE hx
  go_enter Tryz.func35, Tryz.ntmps35
  go_wp2_with fail
  refine (HT.out (some ⟨b, off, none⟩) n c xs a w HR.out hn HV.out HAT.out HZ.out HE.out.env).mono ?_
  rintro e w1 ⟨rfl, k1⟩
  have hpa1 := HPA.out.below k1 HPA.out.lt
  have g0 := hpa1.cell 0
  have gl := hpa1.lt
  have gf := hpa1.frozen
  have hpb : Blk (w1.setCell ⟨pa, 0, none⟩ (.int .i64 ((a + t.flat.length : Nat) : Int))) pa 3 #[.int .i64 ((a + t.flat.length : Nat) : Int)] := Blk.set_at _ rfl hpa1
  have HPB := Lib.hid hpb
  have HG1 := Lib.hid (only_set (p := pa) 0 (.int .i64 ((a + t.flat.length : Nat) : Int)) (only_of_below k1 (some pa)))
  have HOO : Hid (RdI (w1.setCell ⟨pa, 0, none⟩ (.int .i64 ((a + t.flat.length : Nat) : Int))) (w1.setCell ⟨pa, 0, none⟩ (.int .i64 ((a + t.flat.length : Nat) : Int))).heap.size O m zs) := Lib.hid ((Rd.far (Rd.below HO.out k1 (Nat.le_refl _)) _ hOp).more HG1.out.size)
  clear k1 hpa1 hpb l0 ll a0 alt af x0 x1 x2
  generalize hee : ((a + t.flat.length : Nat) : Int) = ee at *
  go_upto_region 4 with fail
  generalize w1.setCell ⟨pa, 0, none⟩ (.int .i64 ee) = w2 at *
  obtain ⟨ts, hts⟩ : ∃ q, q = bsB (t.pr NM) := ⟨_, rfl⟩
  have HPP : Hid ((bsB (paren true (t.pr NM))) = ⟨#[40]⟩ ++ ts ++ ⟨#[41]⟩ ∧ bsB (paren false (t.pr NM)) = ts) := Lib.hid (by
    rw [hts]
    refine ⟨?_, rfl⟩
    apply bl_inj
    show kL ++ (t.pr NM ++ kR) = _
    simp [bl, bsB, kL, kR])
  have hsz : ts.size ≤ 100000 := by rw [hts]; exact HZ.out
  rw [← hts]
  clear hts
  generalize hop : t.op = op at *
  clear hop
  go_wp2_with fail
  refine (contains_int O m d zs op w2 HOO.out (by omega)).mono ?_
  rintro e w3 ⟨rfl, rfl⟩
  generalize hc : zs.any (fun x => decide (op = x)) = cc at *
  clear hc
  cases cc with
  | true =>
    go_wp2_with fail
    go_ret
    rw [HQ.out, HPP.out.1]
    exact ⟨rfl, HG1.out, HPB.out⟩
  | false =>
    go_wp2_with fail
    go_ret
    rw [HQ.out, HPP.out.2]
    exact ⟨rfl, HG1.out, HPB.out⟩
end Go.Proofs.YtaanoljfhnfjoaaGreatDoor
