/- The first event of a kind. -/
import Derived.Test.YtmmkkkakbbidjaaDoorJ5
namespace Go.Proofs.YtmmkkkakbbidjaaDoor
open Go.ChangeShapes Go.WideShapes Go.ChangeAt Go.RowKit
set_option linter.unusedVariables false
attribute [local go_sem ↓] execOp_call_val
attribute [local go_sem] callVal_func setCell_drewN alloc_drewN sEq_walk

set_option maxHeartbeats 1000000 in
theorem indexFuncEv (F : FuncId) (cap : Array Value) (A : Option Addr) (n c : Nat) (zs : List Ev) (p : Ev → Bool) (I : World → Prop)
    (hF : ∀ (args : Array Value) (w : World), (callFunc F args).run Tryd.prog w = .ok (.enter F args) w)
    (hI : ∀ w', I w' → RdEv w' w'.heap.size A n zs)
    (hf : ∀ (z : Ev) (w' : World), z ∈ zs → I w' → Calls Tryd.prog F (#[.agg #[.int .i64 z.time, .string z.kind, .string z.name, .int .i64 z.value]] ++ cap) w' fun e w'' => e = .returned (.bool (p z)) ∧ I w'')
    (hn : n ≤ 9223372036854775807) (w : World) (hw : I w) :
    Calls Tryd.prog 20 #[.slice A n c, .func (.func F) #[] cap] w fun e w' => e = .returned (.int .i64 (idxGo p zs 0)) ∧ I w' := by
  have HF := Lib.hid hf
  have HII := Lib.hid hI
  have HI := Lib.hid hw
  have hlen := Lib.hid (hI w hw).1
  clear hf hw hI
  go_enter Tryd.func20, Tryd.ntmps20
  go_wp2_with fail
  go_loopw [5, 8] (fun _ i wr => ∃ k : Nat, k ≤ n ∧ i = .int .i64 k ∧ I wr ∧ idxGo p zs 0 = idxGo p (zs.drop k) k) (fun _ i _ => n - (intOf i).toNat)
  case atStart => exact ⟨0, by omega, rfl, HI.out, rfl⟩
  case round =>
    obtain ⟨k, hk, rfl, hIw, hidx⟩ := hrel
    have hrd := HII.out wr hIw
    have HIW := Lib.hid hIw
    have HIDX := Lib.hid hidx
    clear hIw hidx
    by_cases hlt : k < n
    · obtain ⟨z, hz⟩ : ∃ z, zs[k]? = some z := ⟨_, List.getElem?_eq_getElem (by have := hlen.out; omega)⟩
      have HM := Lib.hid (List.mem_of_getElem? hz)
      obtain ⟨b, off, rfl, hblt⟩ := hrd.form (by omega)
      obtain ⟨c0, c1, c2, c3⟩ := hrd.at_ hz
      have HZ := Lib.hid (drop_cons hz)
      clear hz
      go_wp2_with fail
      refine (HF.out z wr HM.out HIW.out).mono ?_
      cases hp : p z with
      | true =>
        rintro e w1 ⟨rfl, hI1⟩
        have HI1 := Lib.hid hI1
        have HP := Lib.hid hp
        clear hI1 hp
        go_wp2_with fail
        go_ret
        exact ⟨ret_int (by rw [HIDX.out, HZ.out]; simp [idxGo, HP.out]), HI1.out⟩
      | false =>
        rintro e w1 ⟨rfl, hI1⟩
        have HI1 := Lib.hid hI1
        have HP := Lib.hid hp
        clear hI1 hp
        go_wp2_with fail
        go_roundw
        case rel => exact ⟨k + 1, by omega, by go_num, HI1.out, by rw [HIDX.out, HZ.out]; simp [idxGo, HP.out]⟩
        case measure => simp [intOf]; omega
    · have hd : zs.drop k = [] := by rw [List.drop_eq_nil_iff]; have := hlen.out; omega
      have HD := Lib.hid hd
      clear hd hrd
      go_wp2_with fail
      go_ret
      exact ⟨ret_int (by rw [HIDX.out, HD.out]; rfl), HIW.out⟩

theorem jfirst1 (x : Ev) (s : ByteArray) (g : Nat) (w : World) (hg : w.cell? ⟨g, 0, none⟩ = some (.string s)) :
    Calls Tryd.prog 21 (#[.agg #[.int .i64 x.time, .string x.kind, .string x.name, .int .i64 x.value]] ++ #[.pointer (some ⟨g, 0, none⟩)]) w fun e w' => e = .returned (.bool (sEq x.kind s)) ∧ Below w.heap.size w w' := by
  have hlt := World.block_lt_of_cell? w ⟨g, 0, none⟩ hg
  show Calls Tryd.prog 21 #[.agg #[.int .i64 x.time, .string x.kind, .string x.name, .int .i64 x.value], .pointer (some ⟨g, 0, none⟩)] w _
  go_enter Tryd.func21, Tryd.ntmps21
  go_wp2_with fail
  go_ret
  exact ⟨rfl, (Below.refl _ _).alloc (Nat.le_refl _) _⟩
theorem enter_jfirst1 (args : Array Value) (w : World) : (callFunc 21 args).run Tryd.prog w = .ok (.enter 21 args) w :=
  callFunc_enter Tryd.func21 (by kernel_rfl) rfl args w
def evZ : Ev := ⟨0, ⟨#[]⟩, ⟨#[]⟩, 0⟩
def fstI (l : List Ev) (s : ByteArray) : Int := idxGo (fun z : Ev => sEq z.kind s) (evSort l) 0
def fstR (l : List Ev) (s : ByteArray) : Ev × Int :=
  if ckEv l ≠ 0 then (evZ, ckEv l) else if fstI l s < 0 then (evZ, 8) else ((evSort l).getD (fstI l s).toNat evZ, 0)
def FstP (r : Ev × Int) (w : World) (e : Ending) (w' : World) : Prop := e = .returned (.tuple #[.agg #[.int .i64 r.1.time, .string r.1.kind, .string r.1.name, .int .i64 r.1.value], .int .i64 r.2]) ∧ Below w.heap.size w w'

set_option maxRecDepth 100000 in
set_option maxHeartbeats 2000000 in
theorem jfirst_any (A : Option Addr) (n c : Nat) (l : List Ev) (s : ByteArray) (hf : ∀ x ∈ l, x.Fit) (w : World) (hR : RdEv w w.heap.size A n l) (hn : n ≤ 9223372036854775807) :
    Calls Tryd.prog 12 #[.slice A n c, .string s] w (FstP (fstR l s) w) := by
  have hB0 : Below w.heap.size w ((w.alloc (.cells #[.string s] 9)).alloc (.cells #[.int .i64 0, .string ⟨#[]⟩, .string ⟨#[]⟩, .int .i64 0] 31)) := ((Below.refl _ _).alloc (Nat.le_refl _) _).alloc (by simp) _
  have HB0 := Lib.hid hB0
  have HR0 := Lib.hid (hR.up hB0)
  have HS : Hid (((w.alloc (.cells #[.string s] 9)).alloc (.cells #[.int .i64 0, .string ⟨#[]⟩, .string ⟨#[]⟩, .int .i64 0] 31)).cell? ⟨w.heap.size, 0, none⟩ = some (.string s)) := Lib.hid (((Blk.new w 9 #[.string s]).alloc _).cell 0)
  have HQ : Hid (Blk ((w.alloc (.cells #[.string s] 9)).alloc (.cells #[.int .i64 0, .string ⟨#[]⟩, .string ⟨#[]⟩, .int .i64 0] 31)) (w.heap.size + 1) 31 #[.int .i64 0, .string ⟨#[]⟩, .string ⟨#[]⟩, .int .i64 0]) := Lib.hid (Blk.new_ (by simp))
  have HP : Hid (∀ r e w', FstP r w e w' = (e = .returned (.tuple #[.agg #[.int .i64 r.1.time, .string r.1.kind, .string r.1.name, .int .i64 r.1.value], .int .i64 r.2]) ∧ Below w.heap.size w w')) := Lib.hid fun _ _ _ => rfl
  have HD : Hid (fstR l s = if ckEv l ≠ 0 then (evZ, ckEv l) else if fstI l s < 0 then (evZ, 8) else ((evSort l).getD (fstI l s).toNat evZ, 0)) := Lib.hid rfl
  have HF := Lib.hid hf
  clear hB0 hR hf
  go_enter Tryd.func12, Tryd.ntmps12
  go_wp2_with fail
  refine (sorted_any A n c l HF.out _ HR0.out hn).mono ?_
  rintro e w1 ⟨k1, h1⟩
  have HB1 := Lib.hid (HB0.out.trans (k1.mono HB0.out.size))
  have hq := HQ.out.below k1 HQ.out.lt
  have HS1 := Lib.hid ((k1.cell (p := ⟨w.heap.size, 0, none⟩) (by simp; omega)).trans HS.out)
  obtain ⟨r0, r1, r2, r3, rf, rlt⟩ := Ev.box (x := evZ) hq
  dsimp only [evZ] at r0 r1 r2 r3
  clear k1 hq
  rcases h1 with ⟨hck, rfl⟩ | ⟨hck, SA, sn, sc, rfl, hnc, hcm, hrs⟩
  · generalize ckEv l = ck at *
    have hcb : (ck != 0) = true := by simpa using hck
    have HCK := Lib.hid hck
    clear hck
    go_wp2_with fail
    refine bodyPost_ret (v := .tuple #[.agg #[.int .i64 0, .string ⟨#[]⟩, .string ⟨#[]⟩, .int .i64 0], .int .i64 ck]) (by simp [results, Tryd.results12, go_sem, r0, r1, r2, r3]) rfl ?_
    rw [HP.out, HD.out, if_pos HCK.out]
    exact ⟨rfl, by repeat' (first | with_reducible exact HB1.out | with_reducible refine Below.setCell ?_ ?_ _ | (simp; done))⟩
  · have HRS := Lib.hid hrs
    have HCK := Lib.hid hck
    have hsn : sn ≤ 9223372036854775807 := by simp only [maxLen] at hcm; omega
    have HI : Hid (fstI l s = idxGo (fun z : Ev => sEq z.kind s) (evSort l) 0) := Lib.hid rfl
    clear hrs hck
    go_wp2_with fail
    refine (indexFuncEv 21 #[.pointer (some ⟨w.heap.size, 0, none⟩)] SA sn sc (evSort l) (fun z => sEq z.kind s) (fun w' => Below w1.heap.size w1 w') enter_jfirst1
      (fun w' hb => HRS.out.up hb) (fun z w' hz hb => (jfirst1 z s w.heap.size w' ((hb.cell (p := ⟨w.heap.size, 0, none⟩) (by show w.heap.size < _; omega)).trans HS1.out)).mono fun e w'' ⟨he, hb2⟩ => ⟨he, hb.trans (hb2.mono hb.size)⟩) hsn _ (Below.refl _ _)).mono ?_
    rintro e w2 ⟨rfl, hb⟩
    have HB2 := Lib.hid (HB1.out.trans (hb.mono HB1.out.size))
    have HRS2 := Lib.hid (HRS.out.up hb)
    have q0 := (hb.cell (p := ⟨w.heap.size + 1, 0, none⟩) rlt).trans r0
    have q1 := (hb.cell (p := ⟨w.heap.size + 1, 1, none⟩) rlt).trans r1
    have q2 := (hb.cell (p := ⟨w.heap.size + 1, 2, none⟩) rlt).trans r2
    have q3 := (hb.cell (p := ⟨w.heap.size + 1, 3, none⟩) rlt).trans r3
    have qf : ∀ i, w2.frozen? ⟨w.heap.size + 1, i, none⟩ = false := fun i => (hb.frozen (p := ⟨w.heap.size + 1, i, none⟩) rlt).trans (rf i)
    have qlt := Nat.lt_of_lt_of_le rlt hb.size
    rw [← HI.out]
    clear hb r0 r1 r2 r3 rf rlt
    have hspec := idxGo_spec (fun z : Ev => sEq z.kind s) (evSort l) 0
    rw [← HI.out] at hspec
    rcases hspec with ⟨hi, _⟩ | ⟨i, z, hi, hz, _, _⟩
    · have HII := Lib.hid hi
      rw [hi]
      clear hi
      go_wp2_with fail
      refine bodyPost_ret (v := .tuple #[.agg #[.int .i64 0, .string ⟨#[]⟩, .string ⟨#[]⟩, .int .i64 0], .int .i64 8]) (by simp [results, Tryd.results12, go_sem, q0, q1, q2, q3]) rfl ?_
      rw [HP.out, HD.out, if_neg (by rw [HCK.out]; simp), HII.out, if_pos (by decide)]
      exact ⟨rfl, by repeat' (first | with_reducible exact HB2.out | with_reducible refine Below.setCell ?_ ?_ _ | (simp; done))⟩
    · rw [Nat.zero_add] at hi
      have HII := Lib.hid hi
      rw [hi]
      have hin : i < sn := by have := (List.getElem?_eq_some_iff.1 hz).1; have := HRS2.out.1; omega
      obtain ⟨sb, so, hA, hsb⟩ := HRS2.out.form (by omega)
      subst hA
      obtain ⟨z0, z1, z2, z3⟩ := HRS2.out.at_ hz
      have hiI : (i : Int) < (sn : Int) := by omega
      have HZ := Lib.hid hz
      clear hi hz
      go_wp2_with fail
      refine bodyPost_ret (v := .tuple #[.agg #[.int .i64 z.time, .string z.kind, .string z.name, .int .i64 z.value], .int .i64 0]) (by simp [results, Tryd.results12, go_sem, q0, q1, q2, q3]) rfl ?_
      rw [HP.out, HD.out, if_neg (by rw [HCK.out]; simp), HII.out, if_neg (by omega)]
      refine ⟨by rw [show ((i : Int)).toNat = i from rfl, List.getD_eq_getElem?_getD, HZ.out]; rfl, by repeat' (first | with_reducible exact HB2.out | with_reducible refine Below.setCell ?_ ?_ _ | (simp; done))⟩
end Go.Proofs.YtmmkkkakbbidjaaDoor
