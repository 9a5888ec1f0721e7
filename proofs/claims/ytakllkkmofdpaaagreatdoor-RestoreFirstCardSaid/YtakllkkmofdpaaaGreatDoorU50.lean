import Derived.Test.YtakllkkmofdpaaaGreatDoorU41
import Derived.Test.YtakllkkmofdpaaaGreatDoorU45
import Derived.Test.YtakllkkmofdpaaaGreatDoorU47
set_option linter.unusedVariables false
set_option linter.unusedSimpArgs false
namespace Go.Proofs.YtakllkkmofdpaaaGreatDoor
section
theorem addR_from : ∀ (p rows : List (List Rat)) (i : Nat), ∀ t ∈ (addR rows p i).2, i ≤ t ∧ t < i + p.length
 | [], rows, i, t, h => by cases h
 | a :: r, rows, i, t, h => by
  unfold addR at h
  simp only [List.length_cons]
  split at h
  ·rcases List.mem_cons.1 h with rfl | h
   ·omega
   ·have := addR_from r _ _ t h
    omega
  ·have := addR_from r _ _ t h
   omega
end
section
open Go.ChangeShapes Go.WideShapes Go.ChangeAt Go.RowKit
attribute [local go_sem ↓] execOp_call_val
attribute [local go_sem] callVal_func setCell_drewN alloc_drewN sEq_walk
theorem ownNo_lit0 {w : World} : OwnS NoI (w.alloc (.cells #[] 103)) w.heap.size 103 1 (.slice (some ⟨w.heap.size, 0, none⟩) 0 0) 0 [] :=
 ⟨rfl, .inr ⟨w.heap.size, 0, #[], rfl, Nat.le_refl _, Blk.new w _ _, Nat.le_refl _, by simp [maxLen], rfl, rfl, fun u hu => by simp at hu⟩⟩
theorem wpList_appRows {ops : Array Oper} {rest : List Oper} {o : Oper} {a : Act} {w : World} {Q : Exit → Act → World → Prop} (hgd : o.guard = none) (s x : Operand) (t : TypeId)
    (ho : o.op = .call { callee := .builtin .append, args := #[s, x], argTypes := #[t, t] }) (base : Nat) (ht : Tryz.prog.underlying t = some (.slice 103))
    (v : Value) (hs : List Hd) (hsv : a.eval s = v) (hown : OwnS NoI w base 103 1 v hs.length (hs.map Hd.val))
    (A : Option Addr) (m c : Nat) (h2 : List Hd) (hm : h2.length = m) (hx : a.eval x = .slice A m c) (hr : Rd w w.heap.size 1 A m (h2.map Hd.val)) (h63 : hs.length + m ≤ 1000000000) (hbase : base ≤ w.heap.size) (N : Nat) (hN : (hs ++ h2).length = N)
    (h : ∀ A' c' w', OwnS NoI w' base 103 1 (.slice A' N c') (hs ++ h2).length ((hs ++ h2).map Hd.val) → Below base w w' → Keeps NoI base 103 w w' → wpList Tryz.prog ops Q rest (a.put o.dst (.slice A' N c')) w') : wpList Tryz.prog ops Q (o :: rest) a w := by
 refine wpList_plain hgd fun K hK => ?_
 exact wp_appRows s x t ho base ht v hs hsv hown A m c h2 hm hx hr h63 hbase N hN fun A' c' w' a1 a2 a3 => hK _ _ (h A' c' w' a1 a2 a3)
set_option maxHeartbeats 1000000 in
theorem cloneM_any (A : Option Addr) (n c : Nat) (hs : List Hd) (w : World) (hl : hs.length = n) (hr : Rd w w.heap.size 1 A n (hs.map Hd.val)) (hn : n ≤ 1000000) :
    Calls Tryz.prog 83 #[.slice A n c] w fun e w' => Below w.heap.size w w' ∧ ∃ A' c', e = .returned (.slice A' n c') ∧ OwnS NoI w' w.heap.size 103 1 (.slice A' n c') hs.length (hs.map Hd.val) := by
 have q22 : ∀ (w : World) (a : Option Addr) (n c n' c' : Nat), (binOp .eql 117 (.slice a n c) (.slice none n' c')).run Tryz.prog w = .ok (.bool a.isNone) w := fun w a n c n' c' => Lib.run_eql_slice_nil w _ _ a n c n' c' Tryz.underlying117
 have HL := Lib.hid hl
 have HR := Lib.hid hr
 cases A with
 | none =>
  have h0 : n = 0 := by
   rcases Nat.eq_zero_or_pos n with h | h
   ·exact h
   ·obtain ⟨b, off, e, _⟩ := hr.2 h; cases e
  subst h0
  have hnil : hs = [] := List.eq_nil_of_length_eq_zero hl
  subst hnil
  clear hl hr HL HR
  go_enter Tryz.func83, Tryz.ntmps83
  go_wp2_with fail
  go_ret
  exact ⟨Below.refl _ _, none, 0, rfl, ownS_none _ _ _ _ _⟩
 | some ad =>
  clear hl hr
  have hz : Below w.heap.size w (w.alloc (.cells #[] 103)) := (Below.refl _ _).alloc (Nat.le_refl _) _
  have HZ := Lib.hid hz
  clear hz
  go_enter Tryz.func83, Tryz.ntmps83
  go_wp2_with (at_builtin; refine wpList_appRows rfl _ _ 117 rfl w.heap.size Tryz.underlying117 _ [] rfl ownNo_lit0 (some ad) n c hs HL.out rfl ?qc1 ?qc2 ?qc3 n ?qc4 ?_)
  case qc1 => exact (HR.out.below HZ.out (Nat.le_refl _)).more HZ.out.size
  case qc2 => simp only [List.length_nil]; omega
  case qc3 => exact HZ.out.size
  case qc4 => rw [List.nil_append]; exact HL.out
  intro A' c' w' ho hb _
  have HO : Hid (OwnS NoI w' w.heap.size 103 1 (.slice A' n c') hs.length (hs.map Hd.val)) := Lib.hid ho
  have HB := Lib.hid (HZ.out.trans hb)
  clear ho hb
  go_wp2_with fail
  go_ret
  exact ⟨HB.out, A', c', rfl, HO.out⟩
set_option maxHeartbeats 1000000 in
theorem cloneMi_any (A : Option Addr) (n c : Nat) (ms : List Mi) (w : World) (hr : RdMi w w.heap.size A n ms) (hn : n ≤ 1000000) :
    Calls Tryz.prog 82 #[.slice A n c] w fun e w' => Below w.heap.size w w' ∧ ∃ A' c', e = .returned (.slice A' n c') ∧ OwnMi w' w.heap.size (.slice A' n c') ms := by
 have q22 : ∀ (w : World) (a : Option Addr) (n c n' c' : Nat), (binOp .eql 52 (.slice a n c) (.slice none n' c')).run Tryz.prog w = .ok (.bool a.isNone) w := fun w a n c n' c' => Lib.run_eql_slice_nil w _ _ a n c n' c' Tryz.underlying52
 have HR := Lib.hid hr
 cases A with
 | none =>
  have h0 : n = 0 := by
   rcases Nat.eq_zero_or_pos n with h | h
   ·exact h
   ·obtain ⟨b, off, e, _⟩ := hr.2.2 h; cases e
  subst h0
  have hnil : ms = [] := List.eq_nil_of_length_eq_zero hr.1
  subst hnil
  clear hr HR
  go_enter Tryz.func82, Tryz.ntmps82
  go_wp2_with fail
  go_ret
  exact ⟨Below.refl _ _, none, 0, rfl, ownMi_none _ _⟩
 | some ad =>
  clear hr
  have hz : Below w.heap.size w (w.alloc (.cells #[] 57)) := (Below.refl _ _).alloc (Nat.le_refl _) _
  have HZ := Lib.hid hz
  clear hz
  go_enter Tryz.func82, Tryz.ntmps82
  go_wp2_with (at_builtin; refine wpList_appMi rfl _ _ 52 rfl w.heap.size Tryz.underlying52 _ [] rfl ownMi_lit0 (some ad) n c ms rfl ?qc1 ?qc2 ?qc3 n ?qc4 ?_)
  case qc1 => exact (HR.out.below HZ.out (Nat.le_refl _)).more HZ.out.size
  case qc2 => simp only [List.length_nil]; omega
  case qc3 => exact HZ.out.size
  case qc4 => rw [List.nil_append]; exact HR.out.1
  intro A' c' w' ho hb _
  have HO : Hid (OwnMi w' w.heap.size (.slice A' n c') ms) := Lib.hid ho
  have HB := Lib.hid (HZ.out.trans hb)
  clear ho hb
  go_wp2_with fail
  go_ret
  exact ⟨HB.out, A', c', rfl, HO.out⟩
def missA (x : Net) (ms : List Mi) : Int × Int := if mtCk x ms = 0 then (((freeL x).length : Int) - (rankR (rowsR x ms) : Int), 0) else (0, mtCk x ms)
set_option maxRecDepth 100000 in
set_option maxHeartbeats 4000000 in
theorem miss_any (h : NetH) (x : Net) (h8 : x.nodes.length ≤ 8) (A : Option Addr) (n c : Nat) (ms : List Mi) (w : World) (r : RdNet w w.heap.size h x) (hm : RdMi w w.heap.size A n ms) (hz : ∀ m ∈ ms, m.txt.size ≤ maxLen) (hn : n ≤ 9223372036854775807) (ht : TabOk w) :
    Calls Tryz.prog 40 #[.agg h.cells, .slice A n c] w fun e w' => e = .returned (.tuple #[.int .i64 (missA x ms).1, .int .i64 (missA x ms).2]) ∧ Below w.heap.size w w' := by
 have K0 : Below w.heap.size w (w.alloc (.cells h.cells 33)) := (Below.refl _ _).alloc (Nat.le_refl _) _
 have HK := Lib.hid K0
 have P0 := Lib.hid (Blk.new w 33 h.cells)
 have HSZ : Hid (w.heap.size ≤ (w.alloc (.cells h.cells 33)).heap.size) := Lib.hid K0.size
 have HRK := Lib.hid (orank_any h x h8 A n c ms (w.alloc (.cells h.cells 33)) (r.up K0) ((hm.below K0 (Nat.le_refl _)).more K0.size) hz hn (ht.up K0))
 have HMA : Hid (missA x ms = if mtCk x ms = 0 then (((freeL x).length : Int) - (rankR (rowsR x ms) : Int), 0) else (0, mtCk x ms)) := Lib.hid rfl
 generalize missA x ms = ma at *
 clear K0 hm r hz ht
 obtain ⟨D0, r0, s0, D1, r1, s1, D2, r2, s2, D3, r3, s3, D4, r4, s4, D5, r5, s5⟩ := h
 obtain ⟨y0, y1, y2, y3, y4, y5, nf, nlt⟩ := net_box (h := ⟨D0, r0, s0, D1, r1, s1, D2, r2, s2, D3, r3, s3, D4, r4, s4, D5, r5, s5⟩) P0.out
 dsimp only at y0 y1 y2 y3 y4 y5
 go_enter Tryz.func40, Tryz.ntmps40
 go_wp2_with fail
 generalize w.alloc (.cells (NetH.cells ⟨D0, r0, s0, D1, r1, s1, D2, r2, s2, D3, r3, s3, D4, r4, s4, D5, r5, s5⟩) 33) = W at *
 refine HRK.out.mono ?_
 rintro e w1 ⟨rfl, hb1⟩
 have HB1 := Lib.hid (HK.out.trans (hb1.mono HSZ.out))
 clear hb1 y0 y1 y2 y3 y4 y5 nf nlt HRK
 by_cases hck : mtCk x ms = 0
 ·rw [rankA_eq hck]
  have HL := Lib.hid (more_law hck)
  have hf := freeL_len (mtCk_ok hck).1 h8
  rw [if_pos hck] at HMA
  have HL2 : Hid (rankR (rowsR x ms) ≤ (freeL x).length) := Lib.hid HL.out.1
  generalize rankR (rowsR x ms) = rk at *
  generalize (freeL x).length = fl at *
  have hw : IntKind.i64.wrap ((fl : Int) - (rk : Int)) = (fl : Int) - (rk : Int) := wrap_i64 (by have := HL2.out; omega) (by omega)
  clear HL hf hck
  go_wp2_with fail
  go_ret2
  exact ⟨by rw [HMA.out]; rfl, HB1.out⟩
 ·rw [rankA_bad hck]
  rw [if_neg hck] at HMA
  have hckB : (mtCk x ms != 0) = true := by simp [hck]
  go_wp2_with fail
  go_ret2
  exact ⟨by rw [HMA.out]; rfl, HB1.out⟩
end
section
open Go.ChangeShapes Go.WideShapes Go.ChangeAt Go.RowKit
attribute [local go_sem ↓] execOp_call_val
attribute [local go_sem] callVal_func setCell_drewN alloc_drewN sEq_walk
def adE (x : Net) (l p : List Mi) : Int := if mtCk x l ≠ 0 then mtCk x l else if mtCk x p ≠ 0 then mtCk x p else if rankR (adR x l p).1 < (freeL x).length then 8 else 0
def AddRP (x : Net) (l p : List Mi) (w : World) (e : Ending) (w' : World) : Prop := Below w.heap.size w w' ∧ ((adE x l p ≠ 0 ∧ e = .returned (.tuple #[.slice none 0 0, .int .i64 (adE x l p)])) ∨ (adE x l p = 0 ∧ ∃ A c, e = .returned (.tuple #[.slice A (adR x l p).2.length c, .int .i64 0]) ∧ RdI w' w'.heap.size A (adR x l p).2.length (natJ (adR x l p).2)))
theorem addR_yes {rows : List (List Rat)} {a : List Rat} {r : List (List Rat)} {i : Nat} (h : rankR rows < rankR (rows ++ [a])) : addR rows (a :: r) i = ((addR (rows ++ [a]) r (i + 1)).1, i :: (addR (rows ++ [a]) r (i + 1)).2) := by
 show (if _ then _ else _) = _
 rw [if_pos h]
theorem AdS.yes {x : Net} {l p : List Mi} {k : Nat} {M : List (List Rat)} {out : List Nat} {m : Mi} (h : AdS x l p k M out) (ok : NetOk x) (hm : p[k]? = some m) (hmi : MiOk x m) (hl : l.length + k < 1000000) (hr : rankR M < rankR (M ++ [rowR x (formR x m).1])) : AdS x l p (k + 1) (M ++ [rowR x (formR x m).1]) (out ++ [k]) := by
 have hd : (rowsR x p).drop k = rowR x (formR x m).1 :: (rowsR x p).drop (k + 1) := drop_cons (rowsR_get hm)
 have h1 := h.fst
 have h2 := h.snd
 rw [hd, addR_yes hr] at h1 h2
 have hz := rowsR_ok ok (ms := [m]) (fun a ha => by rw [List.mem_singleton.1 ha]; exact hmi)
 refine ⟨h1, by rw [List.append_assoc]; exact h2, h.ok.snoc rowR_len (fun q hq => Nat.succ_le_succ (hz.2 _ (by unfold rowsR; exact List.mem_singleton.2 rfl) q hq)) (by have := h.len; omega), by rw [List.length_append, List.length_singleton]; have := h.len; omega, by rw [List.length_append, List.length_singleton]; have := h.cnt; omega⟩
set_option maxRecDepth 100000 in
set_option maxHeartbeats 4000000 in
theorem addr_any (h : NetH) (x : Net) (h8 : x.nodes.length ≤ 8) (A : Option Addr) (n c : Nat) (ms : List Mi) (A' : Option Addr) (n' c' : Nat) (ps : List Mi) (w : World) (r : RdNet w w.heap.size h x) (hm : RdMi w w.heap.size A n ms) (hp : RdMi w w.heap.size A' n' ps) (hz : ∀ m ∈ ms, m.txt.size ≤ maxLen) (hz' : ∀ m ∈ ps, m.txt.size ≤ maxLen) (hn : n ≤ 9223372036854775807) (hn' : n' ≤ 9223372036854775807) (ht : TabOk w) :
    Calls Tryz.prog 42 #[.agg h.cells, .slice A n c, .slice A' n' c'] w (AddRP x ms ps w) := by
 have hz1 : Below w.heap.size w (w.alloc (.cells h.cells 33)) := (Below.refl _ _).alloc (Nat.le_refl _) _
 have K0 : Below w.heap.size w ((w.alloc (.cells h.cells 33)).alloc (.cells #[.slice A n c, .slice A' n' c'] 52)) := hz1.alloc (by simp) _
 have HK := Lib.hid K0
 have P0 := Lib.hid ((Blk.new w 33 h.cells).alloc (.cells #[.slice A n c, .slice A' n' c'] 52))
 have P1 : Hid (Blk ((w.alloc (.cells h.cells 33)).alloc (.cells #[.slice A n c, .slice A' n' c'] 52)) (w.heap.size + 1) 52 #[.slice A n c, .slice A' n' c']) := Lib.hid (Blk.new_ (by simp))
 have HX := Lib.hid (r.up K0)
 have HM := Lib.hid ((hm.below K0 (Nat.le_refl _)).more K0.size)
 have HP := Lib.hid ((hp.below K0 (Nat.le_refl _)).more K0.size)
 have HT := Lib.hid (ht.up K0)
 have HZ := Lib.hid hz
 have HZ' := Lib.hid hz'
 have HML : Hid (ms.length = n) := Lib.hid hm.1
 have HPL : Hid (ps.length = n') := Lib.hid hp.1
 have HE : Hid (∀ e w', AddRP x ms ps w e w' ↔ (Below w.heap.size w w' ∧ ((adE x ms ps ≠ 0 ∧ e = .returned (.tuple #[.slice none 0 0, .int .i64 (adE x ms ps)])) ∨ (adE x ms ps = 0 ∧ ∃ A c, e = .returned (.tuple #[.slice A (adR x ms ps).2.length c, .int .i64 0]) ∧ RdI w' w'.heap.size A (adR x ms ps).2.length (natJ (adR x ms ps).2))))) := Lib.hid fun e w' => Iff.rfl
 have HAE : Hid (adE x ms ps = if mtCk x ms ≠ 0 then mtCk x ms else if mtCk x ps ≠ 0 then mtCk x ps else if rankR (adR x ms ps).1 < (freeL x).length then 8 else 0) := Lib.hid rfl
 have HSZ : Hid (w.heap.size ≤ ((w.alloc (.cells h.cells 33)).alloc (.cells #[.slice A n c, .slice A' n' c'] 52)).heap.size) := Lib.hid K0.size
 clear K0 hz1 hm hp r ht hz hz'
 obtain ⟨D0, r0, s0, D1, r1, s1, D2, r2, s2, D3, r3, s3, D4, r4, s4, D5, r5, s5⟩ := h
 go_enter Tryz.func42, Tryz.ntmps42
 go_wp2_with fail
 generalize (w.alloc (.cells (NetH.cells ⟨D0, r0, s0, D1, r1, s1, D2, r2, s2, D3, r3, s3, D4, r4, s4, D5, r5, s5⟩) 33)).alloc (.cells #[.slice A n c, .slice A' n' c'] 52) = W at *
 generalize w.heap.size + 1 = p1 at *
 generalize adE x ms ps = ae at *
 go_loopw [22] (fun v22 wr => ∃ k : Nat, k ≤ 2 ∧ v22 = .int .i64 k ∧ Below W.heap.size W wr ∧ (1 ≤ k → mtCk x ms = 0) ∧ (2 ≤ k → mtCk x ps = 0)) (fun v22 _ => 2 - (intOf v22).toNat)
 case atStart => exact ⟨0, by omega, rfl, Below.refl _ _, fun h => by omega, fun h => by omega⟩
 case round =>
  obtain ⟨k, hk, rfl, hb, h1, h2⟩ := hrel
  have HB := Lib.hid hb
  have H1 := Lib.hid h1
  have H2 := Lib.hid h2
  clear hb h1 h2
  have HXr := Lib.hid (HX.out.up HB.out)
  have HTr := Lib.hid (HT.out.up HB.out)
  have PNX := P0.out.below HB.out P0.out.lt
  obtain ⟨y0, y1, y2, y3, y4, y5, nf, nlt⟩ := net_box (h := ⟨D0, r0, s0, D1, r1, s1, D2, r2, s2, D3, r3, s3, D4, r4, s4, D5, r5, s5⟩) PNX
  dsimp only at y0 y1 y2 y3 y4 y5
  clear PNX
  have P1r := P1.out.below HB.out P1.out.lt
  have z0 := P1r.cell 0
  have z1 := P1r.cell 1
  have zl := P1r.lt
  clear P1r
  match k, hk with
  | 0, _ =>
   have HMr := Lib.hid ((HM.out.below HB.out (Nat.le_refl _)).more HB.out.size)
   go_wp2_with fail
   refine (mcheck_any ⟨D0, r0, s0, D1, r1, s1, D2, r2, s2, D3, r3, s3, D4, r4, s4, D5, r5, s5⟩ x A n c ms wr HXr.out HMr.out HZ.out hn HTr.out).mono ?_
   rintro e w1 ⟨rfl, hb1⟩
   have HB1 := Lib.hid (HB.out.trans (hb1.mono HB.out.size))
   clear hb1 z0 z1 zl y0 y1 y2 y3 y4 y5 nf nlt
   by_cases hck : mtCk x ms = 0
   ·have HCK := Lib.hid hck
    rw [hck]
    clear hck
    go_wp2_with fail
    go_roundw
    case rel => exact ⟨1, by omega, rfl, HB1.out, fun _ => HCK.out, fun h => by omega⟩
    case measure => decide
   ·have hckB : (mtCk x ms != 0) = true := by simp [hck]
    rw [if_pos hck] at HAE
    go_wp2_with fail
    go_ret2
    rw [HE.out]
    exact ⟨HK.out.trans (HB1.out.mono HSZ.out), .inl ⟨by rw [HAE.out]; exact hck, by rw [HAE.out]; rfl⟩⟩
  | 1, _ =>
   have HPr := Lib.hid ((HP.out.below HB.out (Nat.le_refl _)).more HB.out.size)
   go_wp2_with fail
   refine (mcheck_any ⟨D0, r0, s0, D1, r1, s1, D2, r2, s2, D3, r3, s3, D4, r4, s4, D5, r5, s5⟩ x A' n' c' ps wr HXr.out HPr.out HZ'.out hn' HTr.out).mono ?_
   rintro e w1 ⟨rfl, hb1⟩
   have HB1 := Lib.hid (HB.out.trans (hb1.mono HB.out.size))
   have HC1 := Lib.hid (H1.out (by omega))
   clear hb1 z0 z1 zl y0 y1 y2 y3 y4 y5 nf nlt
   by_cases hck : mtCk x ps = 0
   ·have HCK := Lib.hid hck
    rw [hck]
    clear hck
    go_wp2_with fail
    go_roundw
    case rel => exact ⟨2, by omega, rfl, HB1.out, fun _ => HC1.out, fun _ => HCK.out⟩
    case measure => decide
   ·have hckB : (mtCk x ps != 0) = true := by simp [hck]
    rw [if_neg (fun h => h HC1.out), if_pos hck] at HAE
    go_wp2_with fail
    go_ret2
    rw [HE.out]
    exact ⟨HK.out.trans (HB1.out.mono HSZ.out), .inl ⟨by rw [HAE.out]; exact hck, by rw [HAE.out]; rfl⟩⟩
  | 2, _ =>
   have HC1 := Lib.hid (H1.out (by omega))
   have HC2 := Lib.hid (H2.out (by omega))
   clear z0 z1 zl P1
   obtain ⟨ok, hl, hmi⟩ := mtCk_ok HC1.out
   obtain ⟨_, hl', hmi'⟩ := mtCk_ok HC2.out
   have HOK := Lib.hid ok
   have HL := Lib.hid hl
   have HMI := Lib.hid hmi
   have HL' := Lib.hid hl'
   have HMI' := Lib.hid hmi'
   rw [if_neg (fun h => h HC1.out), if_neg (fun h => h HC2.out)] at HAE
   clear ok hl hmi hl' hmi' H1 H2
   go_wp2_with fail
   refine (flowOf_any ⟨D0, r0, s0, D1, r1, s1, D2, r2, s2, D3, r3, s3, D4, r4, s4, D5, r5, s5⟩ x HOK.out h8 wr HXr.out).mono ?_
   rintro e w2 ⟨hb2, g, m, A7, n7, c7, rfl, hg, hblk, hrd, -⟩
   have HB2 := Lib.hid (HB.out.trans (hb2.mono HB.out.size))
   have HG := Lib.hid hblk
   have HR := Lib.hid hrd
   have HN6 : Hid ((freeL x).length = m.n6) := Lib.hid (by rw [← natJ_len]; exact hrd.r6.len)
   clear hb2 hg hblk hrd HXr HTr HB y0 y1 y2 y3 y4 y5 nf nlt
   have PNX := P0.out.below HB2.out P0.out.lt
   obtain ⟨y0, y1, y2, y3, y4, y5, nf, nlt⟩ := net_box (h := ⟨D0, r0, s0, D1, r1, s1, D2, r2, s2, D3, r3, s3, D4, r4, s4, D5, r5, s5⟩) PNX
   dsimp only at y0 y1 y2 y3 y4 y5
   clear PNX
   go_wp2_with fail
   refine (orows_any ⟨D0, r0, s0, D1, r1, s1, D2, r2, s2, D3, r3, s3, D4, r4, s4, D5, r5, s5⟩ x HOK.out h8 g m _ A n c ms w2 (HX.out.up HB2.out) HG.out HR.out ((HM.out.below HB2.out (Nat.le_refl _)).more HB2.out.size) (by have := HL.out; have := HML.out; omega) HMI.out).mono ?_
   rintro e w3 ⟨hb3, A8, c8, rfl, hrm, hc1, hc2⟩
   have HB3 := Lib.hid (HB2.out.trans (hb3.mono HB2.out.size))
   have HRM := Lib.hid hrm
   replace HG := Lib.hid (HG.out.below hb3 HG.out.lt)
   replace HR := Lib.hid (HR.out.up hb3)
   clear hb3 hrm hc1 hc2 HB2 y0 y1 y2 y3 y4 y5 nf nlt
   have HST : Hid (AdS x ms ps 0 (rowsR x ms) []) := Lib.hid ⟨rfl, rfl, rk_ok HOK.out h8 HL.out HMI.out, by rw [rowsR_len]; omega, Nat.le_refl _⟩
   go_wp2_with fail
   refine (rank_m A8 ms.length c8 _ _ _ w3 HRM.out HST.out.ok).mono ?_
   rintro e w4 ⟨rfl, hb4⟩
   have HB4 := Lib.hid (HB3.out.trans (hb4.mono HB3.out.size))
   replace HRM := Lib.hid (HRM.out.up hb4)
   replace HG := Lib.hid (HG.out.below hb4 HG.out.lt)
   replace HR := Lib.hid (HR.out.up hb4)
   clear hb4 HB3
   have HI0 := Lib.hid (info_parts infoIn)
   obtain ⟨i0, hi0, hz0, hz1, hz2⟩ := HI0.out
   clear HI0
   have HI0 := Lib.hid hi0
   have HI1 := Lib.hid hz0
   have HI2 := Lib.hid hz1
   have HI3 := Lib.hid hz2
   clear hi0 hz0 hz1 hz2
   go_wp2_with fail
   go_loopw [12, 13, 14, 43] (fun v12 v13 v14 v43 wr => ∃ (k q c9 : Nat) (A9 : Option Addr) (M : List (List Rat)) (out : List Nat), k ≤ n' ∧ v43 = .int .i64 k ∧ v12 = .slice A9 q c9 ∧ v13 = .int .i64 (rankR M) ∧ AdS x ms ps k M out ∧ RdM wr wr.heap.size A9 q M ∧ OwnS IsI wr w4.heap.size 3 1 v14 out.length (natI out) ∧ Below w4.heap.size w4 wr) (fun _ _ _ v43 _ => n' - (intOf v43).toNat)
   case atStart => exact ⟨0, _, _, _, _, [], by omega, rfl, rfl, rfl, HST.out, HRM.out, ownS_none _ _ _ _ _, Below.refl _ _⟩
   case round =>
    obtain ⟨k, q, c9, A9, M, out, hk, rfl, rfl, rfl, hst, hrm, ho, hb⟩ := hrel
    have HS := Lib.hid hst
    have HRM := Lib.hid hrm
    have HO := Lib.hid ho
    have HB := Lib.hid hb
    clear hst hrm ho hb HST
    by_cases hlt : k < n'
    ·obtain ⟨mi, hmi⟩ : ∃ mi, ps[k]? = some mi := ⟨_, List.getElem?_eq_getElem (by have := HPL.out; omega)⟩
     have HMK := Lib.hid hmi
     have HMO := Lib.hid (HMI'.out mi (List.mem_of_getElem? hmi))
     have HBW := Lib.hid (HB4.out.trans (HB.out.mono HB4.out.size))
     have hmm := (HP.out.below HBW.out (Nat.le_refl _)).more HBW.out.size
     obtain ⟨ab, ao, hA, hab, -⟩ := hmm.2.2 (by omega)
     subst hA
     obtain ⟨a0, a1, a2, a3⟩ := hmm.at_ hmi
     have hkI : (k : Int) < (n' : Int) := by omega
     have hk0 : (0 : Int) ≤ (k : Int) := by omega
     have hkn : (k : Int).toNat = k := Int.toNat_natCast k
     have HNX : Hid ((k : Int) + 1 = ((k + 1 : Nat) : Int)) := Lib.hid (by omega)
     have HNM : Hid (n' - (k + 1) < n' - k) := Lib.hid (by omega)
     have HKN := Lib.hid hlt
     have hn64 : n' ≤ 64 := by have := HPL.out; have := HL'.out; omega
     clear hmi hmm
     go_upto_region 15 with fail
     clear a0 a1 a2 a3 hab hkI hk0 hkn
     have hz : Below wr.heap.size wr (wr.alloc (.cells #[.int .i64 mi.kind, .string mi.name, .string mi.txt, .int .i64 mi.wt] 57)) := (Below.refl _ _).alloc (Nat.le_refl _) _
     have HMB := Lib.hid (Blk.new wr 57 #[.int .i64 mi.kind, .string mi.name, .string mi.txt, .int .i64 mi.wt])
     replace HO := Lib.hid (HO.out.keep hz)
     replace HRM := Lib.hid (HRM.out.up hz)
     have HWA : Hid (Below W.heap.size W (wr.alloc (.cells #[.int .i64 mi.kind, .string mi.name, .string mi.txt, .int .i64 mi.wt] 57))) := Lib.hid (HBW.out.trans (hz.mono HBW.out.size))
     have HB5 : Hid (Below w4.heap.size w4 (wr.alloc (.cells #[.int .i64 mi.kind, .string mi.name, .string mi.txt, .int .i64 mi.wt] 57))) := Lib.hid (HB.out.trans (hz.mono HB.out.size))
     clear hz HB HBW
     generalize wr.heap.size = gm at *
     generalize wr.alloc (.cells #[.int .i64 mi.kind, .string mi.name, .string mi.txt, .int .i64 mi.wt] 57) = wa at *
     have HXa := Lib.hid (HX.out.up HWA.out)
     have HGa := Lib.hid (HG.out.below HB5.out HG.out.lt)
     have HRa := Lib.hid (HR.out.up HB5.out)
     obtain ⟨hs, hsl, hrd, hds⟩ := HRM.out.hds
     have HSL := Lib.hid hsl
     have HRD := Lib.hid hrd
     have HDS := Lib.hid hds
     clear hsl hrd hds
     have HQK : Hid (q ≤ 200) := Lib.hid (by have := HS.out.len; have := HRM.out.len; have := HL.out; have := HL'.out; have := HPL.out; omega)
     have PNX := P0.out.below HWA.out P0.out.lt
     obtain ⟨y0, y1, y2, y3, y4, y5, nf, nlt⟩ := net_box (h := ⟨D0, r0, s0, D1, r1, s1, D2, r2, s2, D3, r3, s3, D4, r4, s4, D5, r5, s5⟩) PNX
     dsimp only at y0 y1 y2 y3 y4 y5
     clear PNX
     have x0 := HMB.out.cell 0
     have x1 := HMB.out.cell 1
     have x2 := HMB.out.cell 2
     have x3 := HMB.out.cell 3
     have xl := HMB.out.lt
     refine wp_region_last (S := fun w' => Below wa.heap.size wa w') 10 _ (by kernel_rfl) (by kernel_rfl) rfl (below_drew (Below.refl _ _)) (fun hHeld => ?_)
     simp only [List.take_succ_cons, List.take_zero]
     refine tkH 0 rfl (by intro w' _ hcc; go_simp <;> with_reducible rfl) hHeld ?_
     try simp only [Act.put, sA_, sB_, sC_]
     refine tkH 2 rfl (by intro w' _ hcc; go_simp <;> with_reducible rfl) hHeld ?_
     try simp only [Act.put, sA_, sB_, sC_]
     refine tkH 3 rfl (by intro w' _ hcc; go_simp <;> with_reducible rfl) hHeld ?_
     try simp only [Act.put, sA_, sB_, sC_]
     refine tkH 4 rfl (by intro w' _ hcc; go_simp <;> with_reducible rfl) hHeld ?_
     try simp only [Act.put, sA_, sB_, sC_]
     refine tkH 5 rfl (by intro w' _ hcc; go_simp <;> with_reducible rfl) hHeld ?_
     try simp only [Act.put, sA_, sB_, sC_]
     clear y0 y1 y2 y3 y4 y5 nf nlt x0 x1 x2 x3 xl
     have HV0 := Lib.hid (below_drew (Below.refl wa.heap.size wa))
     generalize wa.drew = v0 at *
     refine stepH 1 (by kernel_rfl) rfl (fun K hK => ?_)
     go_simp
     refine (cloneM_any A9 q c9 hs v0 HSL.out ((HRD.out.below HV0.out (Nat.le_refl _)).more HV0.out.size) (by have := HQK.out; omega)).mono ?_
     rintro e v1 ⟨hb1, Ap, cp, rfl, ho1⟩
     have HV1 : Hid (Below wa.heap.size wa v1) := Lib.hid (HV0.out.trans (hb1.mono HV0.out.size))
     have HO1 : Hid (OwnS NoI v1 wa.heap.size 103 1 (.slice Ap q cp) hs.length (hs.map Hd.val)) := Lib.hid (ho1.mono HV0.out.size)
     clear hb1 ho1 HV0
     go_simp
     refine hK.out _ _ ?_ (fun hHeld => ?_)
     ·exact HV1.out
     clear hK K
     try simp only [Act.put, sA_, sB_, sC_]
     refine stepH 6 (by kernel_rfl) rfl (fun K hK => ?_)
     go_simp
     refine (formOf_any ⟨D0, r0, s0, D1, r1, s1, D2, r2, s2, D3, r3, s3, D4, r4, s4, D5, r5, s5⟩ x HOK.out h8 g m _ mi v1 (HXa.out.up HV1.out) (HGa.out.below HV1.out HGa.out.lt) (HRa.out.up HV1.out) HMO.out.1 HMO.out.2).mono ?_
     rintro e v2 ⟨hb2, gc, u, rfl, hq, hv⟩
     have HV2 : Hid (Below wa.heap.size wa v2) := Lib.hid (HV1.out.trans (hb2.mono HV1.out.size))
     replace HO1 := Lib.hid (HO1.out.keep hb2)
     have HQ := Lib.hid hq
     clear hb2 hq hv HV1
     go_simp
     refine hK.out _ _ ?_ (fun hHeld => ?_)
     ·exact HV2.out
     clear hK K
     try simp only [Act.put, sA_, sB_, sC_]
     refine stepH 7 (by kernel_rfl) rfl (fun K hK => ?_)
     go_simp
     refine (orow_any g m _ x HOK.out h8 u (some ⟨gc, 0, none⟩) (busN x) (busN x) (formR x mi).1 v2 (HGa.out.below HV2.out HGa.out.lt) (HRa.out.up HV2.out) HQ.out rfl).mono ?_
     rintro e v3 ⟨hb3, B3, v, us, hB3, rfl, hown⟩
     obtain ⟨Ar, cr, hv, -⟩ := hown.rd
     subst hv
     have hrl : (rowR x (formR x mi).1).length = (freeL x).length := rowR_len
     rw [hrl] at hown ⊢
     have HV3 : Hid (Below wa.heap.size wa v3) := Lib.hid (HV2.out.trans (hb3.mono HV2.out.size))
     replace HO1 := Lib.hid (HO1.out.keep hb3)
     have HW3 := Lib.hid hown
     clear hb3 hB3 hown hrl HV2 HQ
     go_simp
     refine hK.out _ _ ?_ (fun hHeld => ?_)
     ·exact HV3.out
     clear hK K
     try simp only [Act.put, sA_, sB_, sC_]
     refine stepH 8 (by kernel_rfl) rfl (fun K hK => ?_)
     go_simp
     have hz9 : Below v3.heap.size v3 (v3.alloc (.cells #[.slice Ar (freeL x).length cr] 103)) := (Below.refl _ _).alloc (Nat.le_refl _) _
     have HO9 := Lib.hid (HO1.out.keep hz9)
     have HW9 := Lib.hid (HW3.out.keep hz9)
     have HV9 := Lib.hid (HV3.out.trans (hz9.mono HV3.out.size))
     have HL9 := Lib.hid (Blk.new v3 103 #[.slice Ar (freeL x).length cr])
     clear hz9 HO1 HW3 HV3
     generalize v3.heap.size = gl9 at *
     generalize v3.alloc (.cells #[.slice Ar (freeL x).length cr] 103) = v9 at *
     refine hK.out _ _ ?_ (fun hHeld => ?_)
     ·exact HV9.out
     clear hK K
     try simp only [Act.put, sA_, sB_, sC_]
     refine stepH 9 (by kernel_rfl) rfl (fun K hK => ?_)
     refine ite_go (by rfl) ?_
     refine wp_appRows (.tmp 49) (.tmp 56) 117 rfl wa.heap.size Tryz.underlying117 (.slice Ap q cp) hs rfl HO9.out (some ⟨gl9, 0, none⟩) 1 1 [⟨Ar, (freeL x).length, cr⟩] rfl rfl ?k2 ?k3 ?k5 (q + 1) ?k4 ?_
     case k2 => exact ⟨rfl, fun _ => ⟨gl9, 0, rfl, HL9.out.lt, fun j u hu => by rw [Nat.zero_add, HL9.out.cell j]; simpa [Hd.val] using hu⟩⟩
     case k3 => have := HSL.out; have := HQK.out; omega
     case k5 => exact HV9.out.size
     case k4 => rw [List.length_append, HSL.out]; rfl
     intro Ax cx v10 ho10 hb10 hk10
     have HV10 : Hid (Below wa.heap.size wa v10) := Lib.hid (HV9.out.trans hb10)
     have hw10 := HW9.out.blkS hk10
     obtain ⟨Ay, cy, hv, hq, hc1, hc2, -⟩ := hw10.rd
     injection hv with e1 e2 e3
     subst e1; subst e3
     rw [← e2] at hq hc1
     have hd := (HDS.out.up HV10.out).snoc (z := ⟨Ar, (freeL x).length, cr⟩) ⟨hq, hc1, hc2⟩
     have HM10 := Lib.hid (hd.rdM2 (Below.refl _ _) ho10).1
     clear ho10 hb10 hk10 hw10 hq hc1 hc2 e2 hd HW9 HO9 HL9 HV9
     refine hK.out _ _ ?_ (fun hHeld => ?_)
     ·exact HV10.out
     clear hK K
     try simp only [Act.put, sA_, sB_, sC_]
     refine wpAnyH_done (by kernel_rfl) ?_ _
     refine lastQ_go (by rfl) ?_
     clear hHeld
     have hz := rowsR_ok HOK.out (ms := [mi]) (fun a ha => by rw [List.mem_singleton.1 ha]; exact HMO.out)
     have HRK2 := Lib.hid (HS.out.ok.snoc (q := rowR x (formR x mi).1) rowR_len (fun t ht => Nat.succ_le_succ (hz.2 _ (by unfold rowsR; exact List.mem_singleton.2 rfl) t ht)) (by have := HS.out.len; have := HL.out; omega))
     clear hz
     go_wp2_with fail
     refine (rank_m Ax (q + 1) cx _ _ _ v10 HM10.out HRK2.out).mono ?_
     rintro e v11 ⟨rfl, hb11⟩
     have HB11 : Hid (Below w4.heap.size w4 v11) := Lib.hid (HB5.out.trans ((HV10.out.trans (hb11.mono HV10.out.size)).mono HB5.out.size))
     replace HO := Lib.hid ((HO.out.keep HV10.out).keep hb11)
     replace HM10 := Lib.hid (HM10.out.up hb11)
     replace HRM := Lib.hid ((HRM.out.up HV10.out).up hb11)
     clear hb11 HV10 HB5 HXa HGa HRa HSL HRD HDS HMB HWA HRK2
     have hmore := rk_more (n := (freeL x).length) (fun a ha => HS.out.ok.wid a ha) (rowR_len (x := x) (q := (formR x mi).1))
     by_cases hr : rankR M < rankR (M ++ [rowR x (formR x mi).1])
     ·have HS2 := Lib.hid (HS.out.yes HOK.out HMK.out HMO.out (by have := HL.out; have := HKN.out; omega) hr)
      have hre : rankR (M ++ [rowR x (formR x mi).1]) = rankR M + 1 := by omega
      have HRE := Lib.hid hre
      rw [hre]
      have hrl : rankR M ≤ 1000 := by have := rk_rows (n := (freeL x).length) (M := M) (fun a ha => HS.out.ok.wid a ha); have := HRM.out.len; have := HQK.out; omega
      obtain ⟨rm, hrm⟩ : ∃ rm, rankR M = rm := ⟨_, rfl⟩
      rw [hrm] at hrl HRE ⊢
      have hgt : (rm : Int) < ((rm + 1 : Nat) : Int) := by omega
      have hrw : IntKind.i64.wrap ((rm : Int) + 1) = (rm : Int) + 1 := wrap_i64 (by omega) (by omega)
      have HRX : Hid ((rm : Int) + 1 = ((rm + 1 : Nat) : Int)) := Lib.hid (by omega)
      have HGL : Hid (w4.heap.size ≤ v11.heap.size) := Lib.hid HB11.out.size
      have HLN := Lib.hid HS.out.cnt
      clear hr hre hmore hrm
      go_upto_region 19 with fail
      clear hgt hrw hrl
      go_wp2_with (at_builtin; refine wpList_appS (S := IsI) rfl (.tmp 65) (.tmp 67) _ rfl w4.heap.size 3 i0 _ 1 8 Tryz.underlying53 HI0.out HI1.out HI2.out HI3.out rfl (by omega) zi_I u14 _ (natI out) rfl HO.out rfl rfl ?k1 ?k2 ?k3 HGL.out ?_)
      case k1 => simp [Value.oneCell', IsI]
      case k2 => simp only [maxLen]; have := HLN.out; have := HKN.out; omega
      case k3 => have := HLN.out; have := HKN.out; omega
      intro v' w7 hown hk7 _
      have HO7 : Hid (OwnS IsI w7 w4.heap.size 3 1 v' (out ++ [k]).length (natI (out ++ [k]))) := Lib.hid (by rw [List.length_append, List.length_singleton]; unfold natI at *; rw [List.map_append]; exact hown)
      have hz7 : Below v11.heap.size v11 (v11.alloc (.cells #[.int .i64 (k : Int)] 3)) := (Below.refl _ _).alloc (Nat.le_refl _) _
      have HB7 : Hid (Below w4.heap.size w4 w7) := Lib.hid ((HB11.out.trans (hz7.mono HGL.out)).trans hk7.low)
      have HM7 := Lib.hid (RdM.keepsI (HM10.out.up hz7) hk7)
      clear hown hk7 hz7 HO HB11 HM10 HRM
      go_wp2_with fail
      go_roundw
      case rel => exact ⟨k + 1, q + 1, cx, Ax, _, out ++ [k], HKN.out, val_int HNX.out, rfl, by rw [HRE.out]; exact val_int HRX.out, HS2.out, HM7.out, HO7.out, HB7.out⟩
      case measure => exact HNM.out
     ·have HS2 := Lib.hid (HS.out.no HMK.out hr)
      have hgt : ¬ (rankR M : Int) < (rankR (M ++ [rowR x (formR x mi).1]) : Int) := by omega
      generalize rankR (M ++ [rowR x (formR x mi).1]) = r2 at *
      clear hmore hr
      go_wp2_with fail
      go_roundw
      case rel => exact ⟨k + 1, q, c9, A9, M, out, HKN.out, val_int HNX.out, rfl, rfl, HS2.out, HRM.out, HO.out, HB11.out⟩
      case measure => exact HNM.out
    ·have hke : k = n' := by omega
     subst hke
     have hkI : ¬ (k : Int) < (k : Int) := by omega
     obtain ⟨he1, he2⟩ := HS.out.done (by have := HPL.out; omega)
     rw [← he1] at HAE
     have HE2 := Lib.hid he2
     clear he1 he2
     have HGw := HG.out.below HB.out HG.out.lt
     have y6 : wr.cell? ⟨g, 6, none⟩ = some (.slice m.A6 m.n6 m.c6) := HGw.cell 6
     have gl := HGw.lt
     clear HGw
     obtain ⟨A5, c5, hv, hrd, h1, h2, h3⟩ := own_rd HO.out.own
     subst hv
     have HRD := Lib.hid hrd
     clear hrd
     have HBF := Lib.hid (HK.out.trans ((HB4.out.trans (HB.out.mono HB4.out.size)).mono HSZ.out))
     rw [HN6.out] at HAE
     obtain ⟨rm, hrm⟩ : ∃ rm, rankR M = rm := ⟨_, rfl⟩
     rw [hrm] at HAE ⊢
     clear hrm
     by_cases hr : rm < m.n6
     ·rw [if_pos hr] at HAE
      have hrI : (rm : Int) < (m.n6 : Int) := by omega
      go_wp2_with fail
      go_ret2
      rw [HE.out]
      exact ⟨HBF.out, .inl ⟨by rw [HAE.out]; decide, by rw [HAE.out]; rfl⟩⟩
     ·rw [if_neg hr] at HAE
      have hrI : ¬ (rm : Int) < (m.n6 : Int) := by omega
      go_wp2_with fail
      go_ret2
      rw [HE.out]
      refine ⟨HBF.out, .inr ⟨HAE.out, A5, c5, by rw [← HE2.out]; rfl, ?_⟩⟩
      rw [← HE2.out]
      have h := HRD.out
      unfold RdI ints natJ
      unfold natI at h
      rw [List.map_map]
      exact h
end
section
open Go.ChangeShapes Go.WideShapes Go.ChangeAt Go.RowKit
attribute [local go_sem ↓] execOp_call_val
attribute [local go_sem] callVal_func setCell_drewN alloc_drewN sEq_walk
def mi0 : Mi := ⟨0, ⟨#[]⟩, ⟨#[]⟩, 0⟩
def takeP (p : List Mi) (l : List Nat) : List Mi := l.map fun t => p.getD t mi0
def cmR (x : Net) (l p : List Mi) : List Mi := l ++ takeP p (adR x l p).2
def cmE (x : Net) (l p : List Mi) : Int := if adE x l p ≠ 0 then adE x l p else if 64 < (cmR x l p).length then 2 else 0
def CmplP (x : Net) (l p : List Mi) (w : World) (e : Ending) (w' : World) : Prop := Below w.heap.size w w' ∧ ((cmE x l p ≠ 0 ∧ e = .returned (.tuple #[.slice none 0 0, .int .i64 (cmE x l p)])) ∨ (cmE x l p = 0 ∧ ∃ A c, e = .returned (.tuple #[.slice A (cmR x l p).length c, .int .i64 0]) ∧ RdMi w' w'.heap.size A (cmR x l p).length (cmR x l p)))
theorem adR_lt {x : Net} {l p : List Mi} {t : Nat} (h : t ∈ (adR x l p).2) : t < p.length := by
 have := (addR_from (rowsR x p) (rowsR x l) 0 t h).2
 rw [rowsR_len] at this
 omega
theorem adR_len {x : Net} {l p : List Mi} : (adR x l p).2.length ≤ p.length := by
 have key : ∀ (r rows : List (List Rat)) (i : Nat), (addR rows r i).2.length ≤ r.length := fun r => by
  induction r with
  | nil => intro rows i; exact Nat.le_refl _
  | cons a r ih =>
   intro rows i
   by_cases h : rankR rows < rankR (rows ++ [a])
   ·rw [addR_yes h, List.length_cons, List.length_cons]; have := ih (rows ++ [a]) (i + 1); omega
   ·rw [addR_no h, List.length_cons]; have := ih rows (i + 1); omega
 have := key (rowsR x p) (rowsR x l) 0
 rwa [rowsR_len] at this
theorem takeP_snoc {p : List Mi} {l : List Nat} {k t : Nat} {m : Mi} (h : l[k]? = some t) (hm : p[t]? = some m) : takeP p (l.take (k + 1)) = takeP p (l.take k) ++ [m] := by
 unfold takeP
 rw [List.take_add_one, h, List.map_append]
 simp [List.getD_eq_getElem?_getD, hm]
set_option maxRecDepth 100000 in
set_option maxHeartbeats 4000000 in
theorem compl_any (h : NetH) (x : Net) (h8 : x.nodes.length ≤ 8) (A : Option Addr) (n c : Nat) (ms : List Mi) (A' : Option Addr) (n' c' : Nat) (ps : List Mi) (w : World) (r : RdNet w w.heap.size h x) (hm : RdMi w w.heap.size A n ms) (hp : RdMi w w.heap.size A' n' ps) (hz : ∀ m ∈ ms, m.txt.size ≤ maxLen) (hz' : ∀ m ∈ ps, m.txt.size ≤ maxLen) (hn : n ≤ 1000) (hn' : n' ≤ 1000) (ht : TabOk w) :
    Calls Tryz.prog 41 #[.agg h.cells, .slice A n c, .slice A' n' c'] w (CmplP x ms ps w) := by
 have K0 : Below w.heap.size w (w.alloc (.cells h.cells 33)) := (Below.refl _ _).alloc (Nat.le_refl _) _
 have HK := Lib.hid K0
 have P0 := Lib.hid (Blk.new w 33 h.cells)
 have HM := Lib.hid ((hm.below K0 (Nat.le_refl _)).more K0.size)
 have HP := Lib.hid ((hp.below K0 (Nat.le_refl _)).more K0.size)
 have HML : Hid (ms.length = n) := Lib.hid hm.1
 have HPL : Hid (ps.length = n') := Lib.hid hp.1
 have HSZ : Hid (w.heap.size ≤ (w.alloc (.cells h.cells 33)).heap.size) := Lib.hid K0.size
 have HAD := Lib.hid (addr_any h x h8 A n c ms A' n' c' ps (w.alloc (.cells h.cells 33)) (r.up K0) HM.out HP.out hz hz' (by omega) (by omega) (ht.up K0))
 have HCE : Hid (∀ e w', CmplP x ms ps w e w' ↔ (Below w.heap.size w w' ∧ ((cmE x ms ps ≠ 0 ∧ e = .returned (.tuple #[.slice none 0 0, .int .i64 (cmE x ms ps)])) ∨ (cmE x ms ps = 0 ∧ ∃ A c, e = .returned (.tuple #[.slice A (cmR x ms ps).length c, .int .i64 0]) ∧ RdMi w' w'.heap.size A (cmR x ms ps).length (cmR x ms ps))))) := Lib.hid fun e w' => Iff.rfl
 have HE : Hid (cmE x ms ps = if adE x ms ps ≠ 0 then adE x ms ps else if 64 < (cmR x ms ps).length then 2 else 0) := Lib.hid rfl
 have HC : Hid (cmR x ms ps = ms ++ takeP ps (adR x ms ps).2) := Lib.hid rfl
 have HLT : Hid (∀ t ∈ (adR x ms ps).2, t < n') := Lib.hid fun t ht => by rw [← HPL.out]; exact adR_lt ht
 have HIL : Hid ((adR x ms ps).2.length ≤ n') := Lib.hid (by rw [← HPL.out]; exact adR_len)
 generalize cmE x ms ps = ce at *
 generalize cmR x ms ps = cr at *
 clear K0 hm hp r ht hz hz'
 obtain ⟨D0, r0, s0, D1, r1, s1, D2, r2, s2, D3, r3, s3, D4, r4, s4, D5, r5, s5⟩ := h
 obtain ⟨y0, y1, y2, y3, y4, y5, nf, nlt⟩ := net_box (h := ⟨D0, r0, s0, D1, r1, s1, D2, r2, s2, D3, r3, s3, D4, r4, s4, D5, r5, s5⟩) P0.out
 dsimp only at y0 y1 y2 y3 y4 y5
 go_enter Tryz.func41, Tryz.ntmps41
 go_wp2_with fail
 generalize w.alloc (.cells (NetH.cells ⟨D0, r0, s0, D1, r1, s1, D2, r2, s2, D3, r3, s3, D4, r4, s4, D5, r5, s5⟩) 33) = W at *
 refine HAD.out.mono ?_
 rintro e w1 ⟨hb1, hh⟩
 have HB1 := Lib.hid hb1
 clear hb1 y0 y1 y2 y3 y4 y5 nf nlt HAD
 rcases hh with ⟨hae, rfl⟩ | ⟨hae, A1, c1, rfl, hrd1⟩
 ·have haB : (adE x ms ps != 0) = true := by simp [hae]
  rw [if_pos hae] at HE
  go_wp2_with fail
  go_ret2
  rw [HCE.out]
  exact ⟨HK.out.trans (HB1.out.mono HSZ.out), .inl ⟨by rw [HE.out]; exact hae, by rw [HE.out]; rfl⟩⟩
 ·rw [hae, if_neg (fun h => h rfl)] at HE
  have HI1 := Lib.hid hrd1
  clear hrd1 hae
  generalize (adR x ms ps).2 = idx at *
  obtain ⟨q, hq⟩ : ∃ q, idx.length = q := ⟨_, rfl⟩
  rw [hq] at HI1 HIL ⊢
  have HQ := Lib.hid hq
  clear hq
  have HM1 := Lib.hid ((HM.out.below HB1.out (Nat.le_refl _)).more HB1.out.size)
  go_wp2_with fail
  refine (cloneMi_any A n c ms w1 HM1.out (by omega)).mono ?_
  rintro e w2 ⟨hb2, A2, c2, rfl, ho2⟩
  have HB2 := Lib.hid (HB1.out.trans (hb2.mono HB1.out.size))
  have HO2 := Lib.hid ho2
  replace HI1 := Lib.hid ((HI1.out.below hb2 (Nat.le_refl _)))
  have HGS : Hid (w1.heap.size ≤ w2.heap.size ∧ W.heap.size ≤ w1.heap.size) := Lib.hid ⟨hb2.size, HB1.out.size⟩
  have HP2 := Lib.hid (HP.out.below (HB1.out.trans (hb2.mono HB1.out.size)) (Nat.le_refl _))
  clear hb2 ho2 HM1 HB1 HM HP
  go_wp2_with fail
  go_loopw [10, 27] (fun v10 v27 wr => ∃ (t c9 N : Nat) (A9 : Option Addr), t ≤ q ∧ v27 = .int .i64 t ∧ v10 = .slice A9 N c9 ∧ N = n + t ∧ OwnMi wr w1.heap.size (.slice A9 N c9) (ms ++ takeP ps (idx.take t)) ∧ Below w1.heap.size w2 wr) (fun _ v27 _ => q - (intOf v27).toNat)
  case atStart => exact ⟨0, c2, n, A2, by omega, rfl, rfl, by omega, by rw [List.take_zero]; unfold takeP; rw [List.map_nil, List.append_nil]; exact HO2.out, Below.refl _ _⟩
  case round =>
   obtain ⟨t, c9, N, A9, ht, rfl, rfl, hN, ho, hb⟩ := hrel
   have HO := Lib.hid ho
   have HB := Lib.hid hb
   have HN := Lib.hid hN
   clear ho hb hN
   by_cases hlt : t < q
   ·obtain ⟨i, hi⟩ : ∃ i, idx[t]? = some i := ⟨_, List.getElem?_eq_getElem (by rw [HQ.out]; exact hlt)⟩
    have hin := HLT.out i (List.mem_of_getElem? hi)
    obtain ⟨m, hm⟩ : ∃ m, ps[i]? = some m := ⟨_, List.getElem?_eq_getElem (by rw [HPL.out]; exact hin)⟩
    have HTS := Lib.hid (takeP_snoc hi hm)
    have hI := HI1.out.below HB.out (Nat.le_refl _)
    obtain ⟨ib, io, hA, hib, -⟩ := hI.2 (by omega)
    subst hA
    have ci := hI.at_ (natJ_at hi)
    have hP := HP2.out.below HB.out HGS.out.2
    obtain ⟨pb, po, hA, hpb, -⟩ := hP.2.2 (by omega)
    subst hA
    obtain ⟨a0, a1, a2, a3⟩ := hP.at_ hm
    have hibl : ib < wr.heap.size := by have := HB.out.size; have := HGS.out; omega
    have hpbl : pb < wr.heap.size := by have := HB.out.size; have := HGS.out; omega
    have htI : (t : Int) < (q : Int) := by omega
    have ht0 : (0 : Int) ≤ (t : Int) := by omega
    have htn : (t : Int).toNat = t := Int.toNat_natCast t
    have hiI : (i : Int) < (n' : Int) := by omega
    have hi0 : (0 : Int) ≤ (i : Int) := by omega
    have hii : (i : Int).toNat = i := Int.toNat_natCast i
    have HNX : Hid ((t : Int) + 1 = ((t + 1 : Nat) : Int)) := Lib.hid (by omega)
    have HNM : Hid (q - (t + 1) < q - t) := Lib.hid (by omega)
    have HTQ := Lib.hid hlt
    have hz : Below wr.heap.size wr (wr.alloc (.cells #[.int .i64 m.kind, .string m.name, .string m.txt, .int .i64 m.wt] 57)) := (Below.refl _ _).alloc (Nat.le_refl _) _
    have HZW := Lib.hid hz
    have HOZ := Lib.hid (HO.out.keep hz)
    have HLZ := Lib.hid (rdMi_blk (Blk.new wr 57 #[.int .i64 m.kind, .string m.name, .string m.txt, .int .i64 m.wt]))
    clear hi hm hI hP hz HO
    have hq1000 : q ≤ 1000 := by have := HIL.out; omega
    go_wp2_with (at_builtin; refine wpList_appMi rfl (.tmp 31) (.tmp 36) _ rfl w1.heap.size Tryz.underlying52 (.slice A9 N c9) _ rfl HOZ.out (some ⟨wr.heap.size, 0, none⟩) 1 1 [m] rfl HLZ.out ?k1 ?k2 (N + 1) ?k3 ?_)
    case k1 => rw [List.length_append]; unfold takeP; rw [List.length_map, List.length_take, HML.out]; omega
    case k2 => have := HB.out.size; have := HGS.out; simp; omega
    case k3 => rw [List.length_append, List.length_append]; unfold takeP; rw [List.length_map, List.length_take, HML.out, HQ.out, HN.out]; simp; omega
    intro Ax cx w5 ho5 hb5 _
    have HO5 : Hid (OwnMi w5 w1.heap.size (.slice Ax (N + 1) cx) (ms ++ takeP ps (idx.take (t + 1)))) := Lib.hid (by rw [HTS.out]; exact ho5)
    have HB5 := Lib.hid ((HB.out.trans (HZW.out.mono (by have := HB.out.size; have := HGS.out; omega))).trans hb5)
    clear ho5 hb5 HOZ HLZ HZW HB
    go_wp2_with fail
    go_roundw
    case rel => exact ⟨t + 1, cx, N + 1, Ax, HTQ.out, val_int HNX.out, rfl, by rw [HN.out]; omega, HO5.out, HB5.out⟩
    case measure => exact HNM.out
   ·have hte : t = q := by omega
    subst hte
    have htI : ¬ (t : Int) < (t : Int) := by omega
    have HOE : Hid (OwnMi wr w1.heap.size (.slice A9 N c9) cr) := Lib.hid (by
     have h := HO.out
     rw [List.take_of_length_le (by rw [HQ.out]; exact Nat.le_refl _), ← HC.out] at h
     exact h)
    have HRD := Lib.hid HOE.out.rd2.1
    have HCL : Hid (cr.length = N) := Lib.hid HRD.out.1
    have HBF := Lib.hid (HK.out.trans ((HB2.out.trans (HB.out.mono HGS.out.2 |> fun h => h.mono (Nat.le_refl _))).mono HSZ.out))
    by_cases h64 : 64 < N
    ·rw [HCL.out, if_pos h64] at HE
     have h64I : (64 : Int) < (N : Int) := by omega
     go_wp2_with fail
     go_ret2
     rw [HCE.out]
     exact ⟨HBF.out, .inl ⟨by rw [HE.out]; decide, by rw [HE.out]; rfl⟩⟩
    ·rw [HCL.out, if_neg h64] at HE
     have h64I : ¬ (64 : Int) < (N : Int) := by omega
     go_wp2_with fail
     go_ret2
     rw [HCE.out]
     exact ⟨HBF.out, .inr ⟨HE.out, A9, c9, by rw [HCL.out]; rfl, by rw [HCL.out]; exact HRD.out⟩⟩
end
section
open Go.ChangeShapes Go.WideShapes Go.ChangeAt Go.RowKit
attribute [local go_sem ↓] execOp_call_val
attribute [local go_sem] callVal_func setCell_drewN alloc_drewN sEq_walk
def rlL : List Mi := [⟨0, ⟨#[76]⟩, ⟨#[53]⟩, 1⟩]
def rpL : List Mi := [⟨0, ⟨#[76]⟩, ⟨#[49]⟩, 1⟩, ⟨0, ⟨#[77]⟩, ⟨#[50]⟩, 1⟩]
theorem rw_miss : missA pnNet rlL = (1, 0) := by decide +kernel
theorem rw_add : adE pnNet rlL rpL = 0 ∧ (adR pnNet rlL rpL).2 = [1] := by decide +kernel
theorem rw_com : cmE pnNet rlL rpL = 0 := by decide +kernel
theorem rw_cmr : cmR pnNet rlL rpL = [⟨0, ⟨#[76]⟩, ⟨#[53]⟩, 1⟩, ⟨0, ⟨#[77]⟩, ⟨#[50]⟩, 1⟩] := by
 unfold cmR
 rw [rw_add.2]
 rfl
theorem rw_sz : (∀ m ∈ rlL, m.txt.size ≤ maxLen) ∧ ∀ m ∈ rpL, m.txt.size ≤ maxLen := by decide +kernel
set_option maxRecDepth 100000 in
set_option maxHeartbeats 4000000 in
theorem rworks_any (w : World) (ht : TabOk w) : Calls Tryz.prog 39 #[] w fun e w' => e = .returned (.bool true) ∧ Below w.heap.size w w' := by
 have HT := Lib.hid ht
 clear ht
 go_enter Tryz.func39, Tryz.ntmps39
 go_wp2_with fail
 refine (flowMeter_any ⟨#[76]⟩ ⟨#[53]⟩ w).mono ?_
 rintro e w1 ⟨rfl, hb1⟩
 have HB1 := Lib.hid hb1
 clear hb1
 go_upto_region 2 with fail
 have hz : Below w1.heap.size w1 (w1.alloc (.cells #[.int .i64 0, .string ⟨#[76]⟩, .string ⟨#[53]⟩, .int .i64 1] 57)) := (Below.refl _ _).alloc (Nat.le_refl _) _
 have HB2 := Lib.hid (HB1.out.trans (hz.mono HB1.out.size))
 have HM : Hid (RdMi (w1.alloc (.cells #[.int .i64 0, .string ⟨#[76]⟩, .string ⟨#[53]⟩, .int .i64 1] 57)) (w1.alloc (.cells #[.int .i64 0, .string ⟨#[76]⟩, .string ⟨#[53]⟩, .int .i64 1] 57)).heap.size (some ⟨w1.heap.size, 0, none⟩) 1 rlL) := Lib.hid ⟨rfl, rd_lit (vs := rlL.flatMap Mi.cells) (T := 57) (Blk.new w1 _ _) rfl (by simp)⟩
 clear hz HB1
 generalize w1.alloc (.cells #[.int .i64 0, .string ⟨#[76]⟩, .string ⟨#[53]⟩, .int .i64 1] 57) = w2 at *
 generalize w1.heap.size = gl at *
 go_wp2_with fail
 refine (flowMeter_any ⟨#[76]⟩ ⟨#[49]⟩ w2).mono ?_
 rintro e w3 ⟨rfl, hb3⟩
 go_wp2_with fail
 refine (flowMeter_any ⟨#[77]⟩ ⟨#[50]⟩ w3).mono ?_
 rintro e w4 ⟨rfl, hb4⟩
 have hz4 := hb3.trans (hb4.mono hb3.size)
 have HB4 := Lib.hid (HB2.out.trans (hz4.mono HB2.out.size))
 replace HM := Lib.hid ((HM.out.below hz4 (Nat.le_refl _)).more hz4.size)
 clear hb3 hb4 hz4 HB2
 go_upto_region 3 with fail
 have hz : Below w4.heap.size w4 (w4.alloc (.cells #[.int .i64 0, .string ⟨#[76]⟩, .string ⟨#[49]⟩, .int .i64 1, .int .i64 0, .string ⟨#[77]⟩, .string ⟨#[50]⟩, .int .i64 1] 57)) := (Below.refl _ _).alloc (Nat.le_refl _) _
 have HB5 := Lib.hid (HB4.out.trans (hz.mono HB4.out.size))
 replace HM := Lib.hid ((HM.out.below hz (Nat.le_refl _)).more hz.size)
 have HP : Hid (RdMi (w4.alloc (.cells #[.int .i64 0, .string ⟨#[76]⟩, .string ⟨#[49]⟩, .int .i64 1, .int .i64 0, .string ⟨#[77]⟩, .string ⟨#[50]⟩, .int .i64 1] 57)) (w4.alloc (.cells #[.int .i64 0, .string ⟨#[76]⟩, .string ⟨#[49]⟩, .int .i64 1, .int .i64 0, .string ⟨#[77]⟩, .string ⟨#[50]⟩, .int .i64 1] 57)).heap.size (some ⟨w4.heap.size, 0, none⟩) 2 rpL) := Lib.hid ⟨rfl, rd_lit (vs := rpL.flatMap Mi.cells) (T := 57) (Blk.new w4 _ _) rfl (by simp)⟩
 clear hz HB4
 generalize w4.alloc (.cells #[.int .i64 0, .string ⟨#[76]⟩, .string ⟨#[49]⟩, .int .i64 1, .int .i64 0, .string ⟨#[77]⟩, .string ⟨#[50]⟩, .int .i64 1] 57) = w5 at *
 generalize w4.heap.size = gp at *
 go_wp2_with fail
 refine (pairNet_any w5).mono ?_
 rintro e w6 ⟨h6, rfl, hr6, hb6⟩
 have HB6 := Lib.hid (HB5.out.trans (hb6.mono HB5.out.size))
 have HR6 := Lib.hid hr6
 replace HM := Lib.hid ((HM.out.below hb6 (Nat.le_refl _)).more hb6.size)
 replace HP := Lib.hid ((HP.out.below hb6 (Nat.le_refl _)).more hb6.size)
 have HT6 := Lib.hid (HT.out.up HB6.out)
 clear hb6 hr6 HB5
 go_wp2_with fail
 refine (miss_any h6 pnNet (by decide) _ 1 1 rlL w6 HR6.out HM.out rw_sz.1 (by decide) HT6.out).mono ?_
 rintro e w7 ⟨rfl, hb7⟩
 have HB7 := Lib.hid (HB6.out.trans (hb7.mono HB6.out.size))
 replace HM := Lib.hid ((HM.out.below hb7 (Nat.le_refl _)).more hb7.size)
 replace HP := Lib.hid ((HP.out.below hb7 (Nat.le_refl _)).more hb7.size)
 clear hb7 HB6
 rw [rw_miss]
 clear HR6 HT6
 go_wp2_with fail
 refine (pairNet_any w7).mono ?_
 rintro e w8 ⟨h8, rfl, hr8, hb8⟩
 have HB8 := Lib.hid (HB7.out.trans (hb8.mono HB7.out.size))
 have HR8 := Lib.hid hr8
 replace HM := Lib.hid ((HM.out.below hb8 (Nat.le_refl _)).more hb8.size)
 replace HP := Lib.hid ((HP.out.below hb8 (Nat.le_refl _)).more hb8.size)
 have HT8 := Lib.hid (HT.out.up HB8.out)
 clear hb8 hr8 HB7
 go_wp2_with fail
 refine (addr_any h8 pnNet (by decide) _ 1 1 rlL _ 2 2 rpL w8 HR8.out HM.out HP.out rw_sz.1 rw_sz.2 (by decide) (by decide) HT8.out).mono ?_
 rintro e w9 ⟨hb9, hh⟩
 have HB9 := Lib.hid (HB8.out.trans (hb9.mono HB8.out.size))
 replace HM := Lib.hid ((HM.out.below hb9 (Nat.le_refl _)).more hb9.size)
 replace HP := Lib.hid ((HP.out.below hb9 (Nat.le_refl _)).more hb9.size)
 clear hb9 HB8
 rcases hh with ⟨h0, _⟩ | ⟨_, A9, c9, rfl, hrd9⟩
 ·exact absurd rw_add.1 h0
 rw [rw_add.2] at hrd9 ⊢
 have HI : Hid (RdI w9 w9.heap.size A9 1 [1]) := Lib.hid hrd9
 clear hrd9 HR8 HT8
 simp only [List.length_cons, List.length_nil, Nat.zero_add]
 go_wp2_with fail
 refine (pairNet_any w9).mono ?_
 rintro e w10 ⟨h10, rfl, hr10, hb10⟩
 have HB10 := Lib.hid (HB9.out.trans (hb10.mono HB9.out.size))
 have HR10 := Lib.hid hr10
 replace HM := Lib.hid ((HM.out.below hb10 (Nat.le_refl _)).more hb10.size)
 replace HP := Lib.hid ((HP.out.below hb10 (Nat.le_refl _)).more hb10.size)
 replace HI := Lib.hid ((HI.out.below hb10 (Nat.le_refl _)).more hb10.size)
 have HT10 := Lib.hid (HT.out.up HB10.out)
 clear hb10 hr10 HB9
 go_wp2_with fail
 refine (compl_any h10 pnNet (by decide) _ 1 1 rlL _ 2 2 rpL w10 HR10.out HM.out HP.out rw_sz.1 rw_sz.2 (by decide) (by decide) HT10.out).mono ?_
 rintro e w11 ⟨hb11, hh⟩
 have HB11 := Lib.hid (HB10.out.trans (hb11.mono HB10.out.size))
 replace HM := Lib.hid ((HM.out.below hb11 (Nat.le_refl _)).more hb11.size)
 replace HP := Lib.hid ((HP.out.below hb11 (Nat.le_refl _)).more hb11.size)
 replace HI := Lib.hid ((HI.out.below hb11 (Nat.le_refl _)).more hb11.size)
 clear hb11 HB10
 rcases hh with ⟨h0, _⟩ | ⟨_, Ac, cc, rfl, hrd11⟩
 ·exact absurd rw_com h0
 rw [rw_cmr] at hrd11 ⊢
 have HC : Hid (RdMi w11 w11.heap.size Ac 2 [⟨0, ⟨#[76]⟩, ⟨#[53]⟩, 1⟩, ⟨0, ⟨#[77]⟩, ⟨#[50]⟩, 1⟩]) := Lib.hid hrd11
 clear hrd11 HR10 HT10
 simp only [List.length_cons, List.length_nil, Nat.zero_add]
 obtain ⟨cb, co, hA, hcb, -⟩ := HC.out.2.2 (by decide)
 subst hA
 obtain ⟨a0, a1, a2, a3⟩ := HC.out.at_ (i := 1) rfl
 obtain ⟨b0, b1, b2, b3⟩ := HP.out.at_ (i := 1) rfl
 have hgp : gp < w11.heap.size := by obtain ⟨_, _, e, h, _⟩ := HP.out.2.2 (by decide); injection e with e; injection e with e1 e2; omega
 simp only [Nat.one_mul, Nat.zero_add, Nat.reduceAdd, Nat.reduceMul] at a0 a1 a2 a3 b0 b1 b2 b3
 have HV0 := Lib.hid (below_drew (Below.refl w11.heap.size w11))
 go_upto_region 6 with fail
 refine wp_region_last (S := fun w' => Below w11.heap.size w11 w') 33 _ (by kernel_rfl) (by kernel_rfl) rfl (below_drew (Below.refl _ _)) (fun hHeld => ?_)
 simp only [List.take_succ_cons, List.take_zero]
 refine tkH 0 rfl (by intro w' _ hcc; go_simp <;> with_reducible rfl) hHeld ?_
 try simp only [Act.put, sA_, sB_, sC_]
 refine tkH 1 rfl (by intro w' _ hcc; go_simp <;> with_reducible rfl) hHeld ?_
 try simp only [Act.put, sA_, sB_, sC_]
 refine tkH 2 rfl (by intro w' _ hcc; go_simp <;> with_reducible rfl) hHeld ?_
 try simp only [Act.put, sA_, sB_, sC_]
 refine tkH 3 rfl (by intro w' _ hcc; go_simp <;> with_reducible rfl) hHeld ?_
 try simp only [Act.put, sA_, sB_, sC_]
 refine tkH 4 rfl (by intro w' _ hcc; go_simp <;> with_reducible rfl) hHeld ?_
 try simp only [Act.put, sA_, sB_, sC_]
 refine tkH 5 rfl (by intro w' _ hcc; go_simp <;> with_reducible rfl) hHeld ?_
 try simp only [Act.put, sA_, sB_, sC_]
 refine tkH 6 rfl (by intro w' _ hcc; go_simp <;> with_reducible rfl) hHeld ?_
 try simp only [Act.put, sA_, sB_, sC_]
 refine tkH 7 rfl (by intro w' _ hcc; go_simp <;> with_reducible rfl) hHeld ?_
 try simp only [Act.put, sA_, sB_, sC_]
 refine tkH 8 rfl (by intro w' _ hcc; go_simp <;> with_reducible rfl) hHeld ?_
 try simp only [Act.put, sA_, sB_, sC_]
 refine tkH 9 rfl (by intro w' _ hcc; go_simp <;> with_reducible rfl) hHeld ?_
 try simp only [Act.put, sA_, sB_, sC_]
 refine tkH 10 rfl (by intro w' _ hcc; go_simp <;> with_reducible rfl) hHeld ?_
 try simp only [Act.put, sA_, sB_, sC_]
 refine tkH 11 rfl (by intro w' _ hcc; go_simp <;> with_reducible rfl) hHeld ?_
 try simp only [Act.put, sA_, sB_, sC_]
 generalize w11.drew = v0 at *
 refine stepH 12 (by kernel_rfl) rfl (fun K hK => ?_)
 go_simp
 have hz : Below v0.heap.size v0 (v0.alloc (.cells #[.int .i64 1] 3)) := (Below.refl _ _).alloc (Nat.le_refl _) _
 have HJ : Hid (RdI (v0.alloc (.cells #[.int .i64 1] 3)) (v0.alloc (.cells #[.int .i64 1] 3)).heap.size (some ⟨v0.heap.size, 0, none⟩) 1 [1]) := Lib.hid (rd_lit (vs := ints [1]) (T := 3) (Blk.new v0 _ _) rfl (by simp))
 have HV1 : Hid (Below w11.heap.size w11 (v0.alloc (.cells #[.int .i64 1] 3))) := Lib.hid (HV0.out.trans (hz.mono HV0.out.size))
 clear hz HV0
 generalize v0.alloc (.cells #[.int .i64 1] 3) = v1 at *
 generalize v0.heap.size = gj at *
 refine hK.out _ _ ?_ (fun hHeld => ?_)
 ·exact HV1.out
 clear hK K
 try simp only [Act.put, sA_, sB_, sC_]
 refine stepH 13 (by kernel_rfl) rfl (fun K hK => ?_)
 go_simp
 refine (sameInts_any A9 1 c9 [1] _ 1 1 [1] v1 ((HI.out.below HV1.out (Nat.le_refl _)).more HV1.out.size) HJ.out (by decide)).mono ?_
 rintro e v2 ⟨rfl, nq, rfl⟩
 rw [show sameI [1] [1] = true from by decide]
 have HV2 : Hid (Below w11.heap.size w11 (v1.drewN nq)) := Lib.hid (below_drewN HV1.out nq)
 clear HV1 HJ
 generalize v1.drewN nq = v2 at *
 go_simp
 refine hK.out _ _ ?_ (fun hHeld => ?_)
 ·exact HV2.out
 clear hK K
 try simp only [Act.put, sA_, sB_, sC_]
 refine tkH 14 rfl (by intro w' _ hcc; go_simp <;> with_reducible rfl) hHeld ?_
 try simp only [Act.put, sA_, sB_, sC_]
 refine tkH 15 rfl (by intro w' _ hcc; go_simp <;> with_reducible rfl) hHeld ?_
 try simp only [Act.put, sA_, sB_, sC_]
 refine tkH 16 rfl (by intro w' _ hcc; go_simp <;> with_reducible rfl) hHeld ?_
 try simp only [Act.put, sA_, sB_, sC_]
 refine tkH 17 rfl (by intro w' _ hcc; go_simp <;> with_reducible rfl) hHeld ?_
 try simp only [Act.put, sA_, sB_, sC_]
 refine tkH 18 rfl (by intro w' _ hcc; go_simp <;> with_reducible rfl) hHeld ?_
 try simp only [Act.put, sA_, sB_, sC_]
 refine tkH 19 rfl (by intro w' _ hcc; go_simp <;> with_reducible rfl) hHeld ?_
 try simp only [Act.put, sA_, sB_, sC_]
 refine tkH 20 rfl (by intro w' _ hcc; go_simp <;> with_reducible rfl) hHeld ?_
 try simp only [Act.put, sA_, sB_, sC_]
 refine tkH 21 rfl (by intro w' _ hcc; go_simp <;> with_reducible rfl) hHeld ?_
 try simp only [Act.put, sA_, sB_, sC_]
 refine tkH 22 rfl (by intro w' _ hcc; go_simp <;> with_reducible rfl) hHeld ?_
 try simp only [Act.put, sA_, sB_, sC_]
 refine tkH 23 rfl (by intro w' _ hcc; go_simp <;> with_reducible rfl) hHeld ?_
 try simp only [Act.put, sA_, sB_, sC_]
 refine tkH 24 rfl (by intro w' _ hcc; go_simp <;> with_reducible rfl) hHeld ?_
 try simp only [Act.put, sA_, sB_, sC_]
 refine tkH 25 rfl (by intro w' _ hcc; go_simp <;> with_reducible rfl) hHeld ?_
 try simp only [Act.put, sA_, sB_, sC_]
 refine tkH 26 rfl (by intro w' _ hcc; go_simp <;> with_reducible rfl) hHeld ?_
 try simp only [Act.put, sA_, sB_, sC_]
 refine tkH 27 rfl (by intro w' _ hcc; go_simp <;> with_reducible rfl) hHeld ?_
 try simp only [Act.put, sA_, sB_, sC_]
 refine tkH 28 rfl (by intro w' _ hcc; go_simp <;> with_reducible rfl) hHeld ?_
 try simp only [Act.put, sA_, sB_, sC_]
 refine tkH 29 rfl (by intro w' _ hcc; go_simp <;> with_reducible rfl) hHeld ?_
 try simp only [Act.put, sA_, sB_, sC_]
 refine tkH 30 rfl (by intro w' _ hcc; go_simp <;> with_reducible rfl) hHeld ?_
 try simp only [Act.put, sA_, sB_, sC_]
 refine tkH 31 rfl (by intro w' _ hcc; go_simp <;> with_reducible rfl) hHeld ?_
 try simp only [Act.put, sA_, sB_, sC_]
 refine tkH 32 rfl (by intro w' _ hcc; go_simp <;> with_reducible rfl) hHeld ?_
 try simp only [Act.put, sA_, sB_, sC_]
 refine wpAnyH_done (by kernel_rfl) ?_ _
 refine lastQ_go (by rfl) ?_
 clear hHeld
 go_wp2_with fail
 go_ret
 exact ⟨rfl, HB11.out.trans (HV2.out.mono HB11.out.size)⟩
end
section
open Go.ChangeShapes Go.WideShapes Go.ChangeAt Go.RowKit
theorem misGo_cons {x : Net} {m : Mi} {r : List Mi} : misGo x (m :: r) = if miCk x m = 0 then misGo x r else miCk x m := rfl
theorem misGo_app {x : Net} {b : List Mi} : ∀ (a : List Mi), misGo x (a ++ b) = if misGo x a = 0 then misGo x b else misGo x a
 | [] => rfl
 | m :: r => by
  rw [List.cons_append, misGo_cons, misGo_cons]
  by_cases h : miCk x m = 0
  ·rw [if_pos h, if_pos h]; exact misGo_app r
  ·rw [if_neg h, if_neg h, if_neg h]
theorem mtCk_app {x : Net} {a b : List Mi} (h : (a ++ b).length ≤ 64) : mtCk x (a ++ b) = if mtCk x a ≠ 0 then mtCk x a else mtCk x b := by
 rw [List.length_append] at h
 unfold mtCk
 by_cases hn : netCk x = 0
 ·have e1 : ¬ 64 < a.length + b.length := by omega
  have e2 : ¬ 64 < a.length := by omega
  have e3 : ¬ 64 < b.length := by omega
  by_cases h1 : misGo x a = 0
  ·simp [hn, e1, e2, e3, misGo_app, h1]
  ·simp [hn, e1, e2, e3, misGo_app, h1]
 ·simp [hn]
theorem mtCk_two {x : Net} {a b : List Mi} (h : (a ++ b).length ≤ 64) : mtCk x (a ++ b) = 0 ↔ mtCk x a = 0 ∧ mtCk x b = 0 := by
 rw [mtCk_app h]
 by_cases h1 : mtCk x a = 0
 ·rw [if_neg (fun h => h h1)]; exact ⟨fun h => ⟨h1, h⟩, fun h => h.2⟩
 ·rw [if_pos h1]; exact ⟨fun h => absurd h h1, fun h => absurd h.1 h1⟩
end
end Go.Proofs.YtakllkkmofdpaaaGreatDoor
