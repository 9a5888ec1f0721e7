import Derived.Test.YtakllkkmofdpaaaGreatDoorU33
set_option linter.unusedVariables false
set_option linter.unusedSimpArgs false
namespace Go.Proofs.YtakllkkmofdpaaaGreatDoor
section
open Go.ChangeShapes Go.WideShapes Go.ChangeAt Go.RowKit
attribute [local go_sem ↓] execOp_call_val
attribute [local go_sem] callVal_func setCell_drewN alloc_drewN sEq_walk NetH.cells
set_option maxHeartbeats 1000000 in
theorem indexFuncBr (F : FuncId) (cap : Array Value) (A : Option Addr) (n c : Nat) (zs : List Br) (p : Br → Bool) (I : World → Prop)
    (hF : ∀ (args : Array Value) (w : World), (callFunc F args).run Tryz.prog w = .ok (.enter F args) w)
    (hI : ∀ w', I w' → RdBr w' w'.heap.size A n zs)
    (hf : ∀ (z : Br) (w' : World), z ∈ zs → I w' → Calls Tryz.prog F (#[.agg #[.string z.name, .string z.fr, .string z.to, .int .i64 z.x, .int .i64 z.tap, .int .i64 z.shift, .int .i64 z.limit, .int .i64 z.short, .int .i64 z.hold]] ++ cap) w' fun e w'' => e = .returned (.bool (p z)) ∧ I w'')
    (hn : n ≤ 9223372036854775807) (w : World) (hw : I w) :
    Calls Tryz.prog 131 #[.slice A n c, .func (.func F) #[] cap] w fun e w' => e = .returned (.int .i64 (idxGo p zs 0)) ∧ I w' := by
 have HF := Lib.hid hf
 have HII := Lib.hid hI
 have HI := Lib.hid hw
 have hlen := Lib.hid (hI w hw).1
 clear hf hw hI
 go_enter Tryz.func131, Tryz.ntmps131
 go_wp2_with fail
 go_loopw [5, 8] (fun _ i wr => ∃ k : Nat, k ≤ n ∧ i = .int .i64 k ∧ I wr ∧ idxGo p zs 0 = idxGo p (zs.drop k) k) (fun _ i _ => n - (intOf i).toNat)
 case atStart => exact ⟨0, by omega, rfl, HI.out, rfl⟩
 case round =>
  obtain ⟨k, hk, rfl, hIw, hidx⟩ := hrel
  have hrd := HII.out wr hIw
  have HIW := Lib.hid hIw
  have HIDX := Lib.hid hidx
  clear hIw hidx
  by_cases hlt : k < n
  ·obtain ⟨z, hz⟩ : ∃ z, zs[k]? = some z := ⟨_, List.getElem?_eq_getElem (by have := hlen.out; omega)⟩
   have HM := Lib.hid (List.mem_of_getElem? hz)
   obtain ⟨b, off, rfl, hblt⟩ := hrd.form (by omega)
   obtain ⟨c0, c1, c2, c3, c4, c5, c6, c7, c8⟩ := hrd.at_ hz
   have HZ := Lib.hid (drop_cons hz)
   clear hz
   go_wp2_with fail
   refine (HF.out z wr HM.out HIW.out).mono ?_
   cases hp : p z with
   | true =>
    rintro e w1 ⟨rfl, hI1⟩
    have HI1 := Lib.hid hI1
    have HP := Lib.hid hp
    clear hI1 hp
    go_wp2_with fail
    go_ret
    exact ⟨ret_int (by rw [HIDX.out, HZ.out]; simp [idxGo, HP.out]), HI1.out⟩
   | false =>
    rintro e w1 ⟨rfl, hI1⟩
    have HI1 := Lib.hid hI1
    have HP := Lib.hid hp
    clear hI1 hp
    go_wp2_with fail
    go_roundw
    case rel => exact ⟨k + 1, by omega, by go_num, HI1.out, by rw [HIDX.out, HZ.out]; simp [idxGo, HP.out]⟩
    case measure => simp [intOf]; omega
  ·have hd : zs.drop k = [] := by rw [List.drop_eq_nil_iff]; have := hlen.out; omega
   have HD := Lib.hid hd
   clear hd hrd
   go_wp2_with fail
   go_ret
   exact ⟨ret_int (by rw [HIDX.out, HD.out]; rfl), HIW.out⟩
theorem mbranch1 (x : Br) (s : ByteArray) (g : Nat) (w : World) (hg : w.cell? ⟨g, 0, none⟩ = some (.string s)) :
    Calls Tryz.prog 132 (#[.agg #[.string x.name, .string x.fr, .string x.to, .int .i64 x.x, .int .i64 x.tap, .int .i64 x.shift, .int .i64 x.limit, .int .i64 x.short, .int .i64 x.hold]] ++ #[.pointer (some ⟨g, 0, none⟩)]) w fun e w' => e = .returned (.bool (sEq x.name s)) ∧ Below w.heap.size w w' := by
 have hlt := World.block_lt_of_cell? w ⟨g, 0, none⟩ hg
 show Calls Tryz.prog 132 #[.agg #[.string x.name, .string x.fr, .string x.to, .int .i64 x.x, .int .i64 x.tap, .int .i64 x.shift, .int .i64 x.limit, .int .i64 x.short, .int .i64 x.hold], .pointer (some ⟨g, 0, none⟩)] w _
 go_enter Tryz.func132, Tryz.ntmps132
 go_wp2_with fail
 go_ret
 exact ⟨rfl, (Below.refl _ _).alloc (Nat.le_refl _) _⟩
theorem enter_mbranch1 (args : Array Value) (w : World) : (callFunc 132 args).run Tryz.prog w = .ok (.enter 132 args) w :=
 callFunc_enter Tryz.func132 (by kernel_rfl) rfl args w
def brIdx (x : Net) (s : ByteArray) : Int := idxGo (fun b : Br => sEq b.name s) x.brs 0
theorem brIdx_spec (x : Net) (s : ByteArray) : (brIdx x s = -1 ∧ ∀ b ∈ x.brs, b.name ≠ s) ∨ ∃ (i : Nat) (b : Br), brIdx x s = (i : Int) ∧ x.brs[i]? = some b ∧ b.name = s := by
 rcases idxGo_spec (fun b : Br => sEq b.name s) x.brs 0 with ⟨h1, h2⟩ | ⟨i, b, h1, h2, h3, _⟩
 ·exact .inl ⟨h1, fun b hb => sEq_ff.1 (h2 b hb)⟩
 ·exact .inr ⟨i, b, by unfold brIdx; rw [h1]; simp, h2, sEq_iff.1 h3⟩
set_option maxHeartbeats 1000000 in
theorem mbranch_any (h : NetH) (x : Net) (s : ByteArray) (w : World) (r : RdNet w w.heap.size h x) :
    Calls Tryz.prog 99 #[.agg h.cells, .string s] w fun e w' => e = .returned (.int .i64 (brIdx x s)) ∧ Below w.heap.size w w' := by
 have K0 : Below w.heap.size w ((w.alloc (.cells h.cells 33)).alloc (.cells #[.string s] 9)) := ((Below.refl _ _).alloc (Nat.le_refl _) _).alloc (by simp) _
 have HK := Lib.hid K0
 have HR := Lib.hid (r.up K0)
 have hm := r.m2
 have hs : ((w.alloc (.cells h.cells 33)).alloc (.cells #[.string s] 9)).cell? ⟨w.heap.size + 1, 0, none⟩ = some (.string s) := (Blk.new_ (t := 9) (cs := #[.string s]) (w := w.alloc (.cells h.cells 33)) (by simp)).cell 0
 have HS := Lib.hid hs
 clear K0 r hs
 go_enter Tryz.func99, Tryz.ntmps99
 go_wp2_with fail
 refine (indexFuncBr _ _ h.A2 h.n2 h.c2 x.brs (fun b => sEq b.name s) (fun w' => Below ((w.alloc (.cells h.cells 33)).alloc (.cells #[.string s] 9)).heap.size ((w.alloc (.cells h.cells 33)).alloc (.cells #[.string s] 9)) w') enter_mbranch1
  (fun w' hb => (HR.out.up hb).r2) (fun z w' _ hb => (mbranch1 z s (w.heap.size + 1) w' ((hb.cell (p := ⟨w.heap.size + 1, 0, none⟩) (by simp)).trans HS.out)).mono fun e w'' ⟨he, hb2⟩ => ⟨he, hb.trans (hb2.mono hb.size)⟩) hm _ (Below.refl _ _)).mono ?_
 rintro e w1 ⟨rfl, hb⟩
 have HB := Lib.hid (HK.out.trans (hb.mono HK.out.size))
 clear hb
 go_wp2_with fail
 go_ret
 exact ⟨rfl, HB.out⟩
def miCk (x : Net) (m : Mi) : Int :=
 if m.kind < 0 ∨ 2 < m.kind then 1 else if (m.kind = 0 ∧ brIdx x m.name < 0) ∨ (m.kind ≠ 0 ∧ (x.nodes.any fun y => sEq m.name y) = false) then 6 else
 if ratCk m.txt.data.toList ≠ 0 then ratCk m.txt.data.toList else if m.wt < 1 ∨ 1000 < m.wt then 4 else 0
def misGo (x : Net) : List Mi → Int
 | [] => 0
 | m :: r => if miCk x m = 0 then misGo x r else miCk x m
def mtCk (x : Net) (ms : List Mi) : Int := if netCk x ≠ 0 then netCk x else if 64 < ms.length then 2 else misGo x ms
theorem misGo_ok {x : Net} : ∀ {ms : List Mi}, misGo x ms = 0 → ∀ m ∈ ms, miCk x m = 0
 | [], _, m, h => by cases h
 | a :: r, h, m, hm => by
  unfold misGo at h
  split at h
  ·rename_i ha
   rcases List.mem_cons.1 hm with h1 | h1
   ·rw [h1]; exact ha
   ·exact misGo_ok h m h1
  ·exact absurd h (by assumption)
theorem misGo_drop {x : Net} {ms : List Mi} {k : Nat} {m : Mi} (h : ms[k]? = some m) : misGo x (ms.drop k) = if miCk x m = 0 then misGo x (ms.drop (k + 1)) else miCk x m := by
 rw [drop_cons h]
 rfl
set_option maxRecDepth 100000 in
set_option maxHeartbeats 4000000 in
theorem mcheck_any (h : NetH) (x : Net) (A : Option Addr) (n c : Nat) (ms : List Mi) (w : World) (r : RdNet w w.heap.size h x) (hm : RdMi w w.heap.size A n ms) (hz : ∀ m ∈ ms, m.txt.size ≤ maxLen) (hn : n ≤ 9223372036854775807) (ht : TabOk w) :
    Calls Tryz.prog 69 #[.agg h.cells, .slice A n c] w fun e w' => e = .returned (.int .i64 (mtCk x ms)) ∧ Below w.heap.size w w' := by
 have K0 : Below w.heap.size w (w.alloc (.cells h.cells 33)) := (Below.refl _ _).alloc (Nat.le_refl _) _
 have HK := Lib.hid K0
 have HR0 := Lib.hid r
 have HM := Lib.hid hm
 have HML := Lib.hid hm.1
 have HZ := Lib.hid hz
 have HT := Lib.hid ht
 have HX := Lib.hid (Blk.new w 33 h.cells)
 have HC := Lib.hid (check_any h x _ (r.up K0))
 have HM0 : Hid (h.n0 ≤ 9223372036854775807) := Lib.hid r.m0
 have hlen : ms.length = n := hm.1
 clear K0 r hm hz ht
 obtain ⟨A0, m0, c0, A1, m1, c1, A2, m2, c2, A3, m3, c3, A4, m4, c4, A5, m5, c5⟩ := h
 simp only [NetH.cells] at HK HX HC HM0 ⊢
 have hlI : (64 : Int) < (n : Int) ↔ 64 < ms.length := by omega
 have HLI := Lib.hid hlI
 clear hlI hlen
 go_enter Tryz.func69, Tryz.ntmps69
 go_upto_region 1 with fail
 generalize w.alloc (.cells #[.slice A0 m0 c0, .slice A1 m1 c1, .slice A2 m2 c2, .slice A3 m3 c3, .slice A4 m4 c4, .slice A5 m5 c5] 33) = W at *
 have hgl := HX.out.lt
 have y0 := HX.out.cell 0
 have y1 := HX.out.cell 1
 have y2 := HX.out.cell 2
 have y3 := HX.out.cell 3
 have y4 := HX.out.cell 4
 have y5 := HX.out.cell 5
 go_wp2_with fail
 refine HC.out.mono ?_
 clear y0 y1 y2 y3 y4 y5 hgl HC
 rintro e w1 ⟨he, hb1⟩
 have HB1 := Lib.hid (HK.out.trans (hb1.mono HK.out.size))
 have HX1 := Lib.hid (HX.out.below hb1 HX.out.lt)
 clear hb1 HK HX
 by_cases h0 : netCk x = 0
 ·rw [h0] at he
  subst he
  have HE0 : Hid (mtCk x ms = if 64 < ms.length then 2 else misGo x ms) := Lib.hid (by unfold mtCk; rw [if_neg (by simp [h0])])
  clear h0
  by_cases h64 : 64 < ms.length
  ·have h64I : (64 : Int) < (n : Int) := HLI.out.2 h64
   have HE1 : Hid (mtCk x ms = 2) := Lib.hid (by rw [HE0.out, if_pos h64])
   clear h64
   go_wp2_with fail
   go_ret
   exact ⟨by rw [HE1.out]; rfl, HB1.out⟩
  ·have h64I : ¬ (64 : Int) < (n : Int) := fun h => h64 (HLI.out.1 h)
   have HE1 : Hid (mtCk x ms = misGo x ms) := Lib.hid (by rw [HE0.out, if_neg h64])
   clear h64
   go_wp2_with fail
   go_loopw [19] (fun v19 wr => ∃ k : Nat, k ≤ n ∧ v19 = .int .i64 k ∧ Below w.heap.size w wr ∧ Blk wr w.heap.size 33 #[.slice A0 m0 c0, .slice A1 m1 c1, .slice A2 m2 c2, .slice A3 m3 c3, .slice A4 m4 c4, .slice A5 m5 c5] ∧ misGo x ms = misGo x (ms.drop k)) (fun v19 _ => n - (intOf v19).toNat)
   case atStart => exact ⟨0, by omega, rfl, HB1.out, HX1.out, rfl⟩
   case round =>
    clear HB1 HX1
    obtain ⟨k, hk, rfl, hb, hx, hgo⟩ := hrel
    have HB := Lib.hid hb
    have HX := Lib.hid hx
    have HGO := Lib.hid hgo
    clear hb hx hgo
    by_cases hlt : k < n
    ·obtain ⟨m, hm⟩ : ∃ m, ms[k]? = some m := ⟨_, List.getElem?_eq_getElem (by have := HML.out; omega)⟩
     obtain ⟨b, off, hA, hb⟩ := (HM.out.below HB.out (Nat.le_refl _)).form (by omega)
     subst hA
     obtain ⟨a0, a1, a2, a3⟩ := (HM.out.below HB.out (Nat.le_refl _)).at_ hm
     have hbl : b < wr.heap.size := Nat.lt_of_lt_of_le hb HB.out.size
     have HD := Lib.hid (misGo_drop (x := x) hm)
     rw [← HGO.out] at HD
     have HTZ := Lib.hid (HZ.out m (List.mem_of_getElem? hm))
     have hkI : (k : Int) < (n : Int) := by omega
     have HN1 : Hid ((k : Int) + 1 = ((k + 1 : Nat) : Int)) := Lib.hid (by omega)
     have HN2 : Hid (n - (k + 1) < n - k) := Lib.hid (by omega)
     clear hm hb
     go_upto_region 9 with fail
     clear a0 a1 a2 a3 hbl
     generalize hwa : wr.alloc (.cells #[.int .i64 m.kind, .string m.name, .string m.txt, .int .i64 m.wt] 57) = wa
     have hba : Below wr.heap.size wr wa := by rw [← hwa]; exact (Below.refl _ _).alloc (Nat.le_refl _) _
     have HS : Hid (Blk wa wr.heap.size 57 #[.int .i64 m.kind, .string m.name, .string m.txt, .int .i64 m.wt]) := Lib.hid (by rw [← hwa]; exact Blk.new wr _ _)
     replace HB := Lib.hid (HB.out.trans (hba.mono HB.out.size))
     replace HX := Lib.hid (HX.out.below hba HX.out.lt)
     have HRN := Lib.hid (HR0.out.up HB.out)
     clear hwa hba
     generalize wr.heap.size = gx at *
     have s0 := HS.out.cell 0
     have s1 := HS.out.cell 1
     have s2 := HS.out.cell 2
     have s3 := HS.out.cell 3
     have sl := HS.out.lt
     have HCK : Hid (Calls Tryz.prog 97 #[.string m.txt] wa fun e w' => e = .returned (.int .i64 (ratCk m.txt.data.toList)) ∧ Below wa.heap.size wa w') := Lib.hid (by
      have h := ratck_any m.txt.data.toList (by rw [Array.length_toList]; exact HTZ.out) wa (HT.out.up HB.out)
      rwa [show (⟨m.txt.data.toList.toArray⟩ : ByteArray) = m.txt from by cases m.txt; simp] at h)
     have HMC : Hid (miCk x m = if m.kind < 0 ∨ 2 < m.kind then 1 else if (m.kind = 0 ∧ brIdx x m.name < 0) ∨ (m.kind ≠ 0 ∧ (x.nodes.any fun y => sEq m.name y) = false) then 6 else
      if ratCk m.txt.data.toList ≠ 0 then ratCk m.txt.data.toList else if m.wt < 1 ∨ 1000 < m.wt then 4 else 0) := Lib.hid rfl
     have HNZ : Hid (∀ z, miCk x m = z → z ≠ 0 → mtCk x ms = z) := Lib.hid fun z h hz => by rw [HE1.out, HD.out, if_neg (by rw [h]; exact hz), h]
     by_cases hk1 : m.kind < 0
     ·have HE : Hid (mtCk x ms = 1) := Lib.hid (HNZ.out 1 (by rw [HMC.out, if_pos (.inl hk1)]) (by decide))
      go_wp2_with fail
      go_ret
      exact ⟨by rw [HE.out]; rfl, HB.out⟩
     by_cases hk2 : 2 < m.kind
     ·have HE : Hid (mtCk x ms = 1) := Lib.hid (HNZ.out 1 (by rw [HMC.out, if_pos (.inr hk2)]) (by decide))
      go_wp2_with fail
      go_ret
      exact ⟨by rw [HE.out]; rfl, HB.out⟩
     rw [if_neg (by omega)] at HMC
     have HREST : Hid (∀ w2, Below wa.heap.size wa w2 → (¬ ((m.kind = 0 ∧ brIdx x m.name < 0) ∨ (m.kind ≠ 0 ∧ (x.nodes.any fun y => sEq m.name y) = false))) → True) := Lib.hid fun _ _ _ => trivial
     by_cases hk0 : m.kind = 0
     ·have hk0b : (m.kind == 0) = true := by simp [hk0]
      have y0 := HX.out.cell 0
      have y1 := HX.out.cell 1
      have y2 := HX.out.cell 2
      have y3 := HX.out.cell 3
      have y4 := HX.out.cell 4
      have y5 := HX.out.cell 5
      have yl := HX.out.lt
      have HBC := Lib.hid (mbranch_any ⟨A0, m0, c0, A1, m1, c1, A2, m2, c2, A3, m3, c3, A4, m4, c4, A5, m5, c5⟩ x m.name wa HRN.out)
      obtain ⟨bi, hbi⟩ : ∃ bi, brIdx x m.name = bi := ⟨_, rfl⟩
      rw [hbi] at HBC HMC
      go_wp2_with fail
      refine HBC.out.mono ?_
      rintro e w2 ⟨rfl, hb2⟩
      have HB2 := Lib.hid (HB.out.trans (hb2.mono HB.out.size))
      have HX2 := Lib.hid (HX.out.below hb2 HX.out.lt)
      have HS2 := Lib.hid (HS.out.below hb2 HS.out.lt)
      clear hb2 HBC y0 y1 y2 y3 y4 y5 yl s0 s1 s2 s3 sl HCK HREST
      have s0 := HS2.out.cell 0
      have s2 := HS2.out.cell 2
      have s3 := HS2.out.cell 3
      have sl := HS2.out.lt
      by_cases hb0 : bi < 0
      ·have HE : Hid (mtCk x ms = 6) := Lib.hid (HNZ.out 6 (by rw [HMC.out, if_pos (.inl ⟨hk0, hb0⟩)]) (by decide))
       go_wp2_with fail
       go_ret
       exact ⟨by rw [HE.out]; rfl, HB2.out⟩
      ·rw [if_neg (by rintro (⟨_, h⟩ | ⟨h, _⟩) <;> contradiction)] at HMC
       have HCK2 : Hid (Calls Tryz.prog 97 #[.string m.txt] w2 fun e w' => e = .returned (.int .i64 (ratCk m.txt.data.toList)) ∧ Below w2.heap.size w2 w') := Lib.hid (by
        have h := ratck_any m.txt.data.toList (by rw [Array.length_toList]; exact HTZ.out) w2 (HT.out.up HB2.out)
        rwa [show (⟨m.txt.data.toList.toArray⟩ : ByteArray) = m.txt from by cases m.txt; simp] at h)
       obtain ⟨rc, hrc⟩ : ∃ rc, ratCk m.txt.data.toList = rc := ⟨_, rfl⟩
       rw [hrc] at HCK2 HMC
       go_wp2_with fail
       refine HCK2.out.mono ?_
       rintro e w3 ⟨rfl, hb3⟩
       have HB3 := Lib.hid (HB2.out.trans (hb3.mono HB2.out.size))
       have HX3 := Lib.hid (HX2.out.below hb3 HX2.out.lt)
       have HS3 := Lib.hid (HS2.out.below hb3 HS2.out.lt)
       clear hb3 HCK2 hrc
       have t3 := HS3.out.cell 3
       have tl := HS3.out.lt
       by_cases hr0 : rc = 0
       ·subst hr0
        rw [if_neg (by simp)] at HMC
        by_cases hw1 : m.wt < 1
        ·have HE : Hid (mtCk x ms = 4) := Lib.hid (HNZ.out 4 (by rw [HMC.out, if_pos (.inl hw1)]) (by decide))
         go_wp2_with fail
         go_ret
         exact ⟨by rw [HE.out]; rfl, HB3.out⟩
        by_cases hw2 : 1000 < m.wt
        ·have HE : Hid (mtCk x ms = 4) := Lib.hid (HNZ.out 4 (by rw [HMC.out, if_pos (.inr hw2)]) (by decide))
         go_wp2_with fail
         go_ret
         exact ⟨by rw [HE.out]; rfl, HB3.out⟩
        rw [if_neg (by omega)] at HMC
        rw [if_pos HMC.out] at HD
        go_wp2_with fail
        go_roundw
        case rel => exact ⟨k + 1, hlt, val_int HN1.out, HB3.out, HX3.out, HGO.out.trans (HGO.out.symm.trans HD.out)⟩
        case measure => exact HN2.out
       ·have HE : Hid (mtCk x ms = rc) := Lib.hid (HNZ.out rc (by rw [HMC.out, if_pos hr0]) hr0)
        have hr0b : (rc != 0) = true := by simp [hr0]
        clear hr0
        go_wp2_with fail
        go_ret
        exact ⟨by rw [HE.out]; rfl, HB3.out⟩
     ·have hk0b : (m.kind == 0) = false := by simp [hk0]
      have hk0c : (m.kind != 0) = true := by simp [hk0]
      have y0 := HX.out.cell 0
      have yl := HX.out.lt
      have HBC := Lib.hid (contains_str A0 m0 c0 x.nodes m.name wa HRN.out.r0 HM0.out)
      obtain ⟨bi, hbi⟩ : ∃ bi, (x.nodes.any fun y => sEq m.name y) = bi := ⟨_, rfl⟩
      rw [hbi] at HBC HMC
      go_wp2_with fail
      refine HBC.out.mono ?_
      rintro e w2 ⟨rfl, rfl⟩
      have HB2 := HB
      have HX2 := HX
      have HS2 := HS
      clear HBC y0 yl HREST
      cases bi with
      | false =>
       have HE : Hid (mtCk x ms = 6) := Lib.hid (HNZ.out 6 (by rw [HMC.out, if_pos (.inr ⟨hk0, rfl⟩)]) (by decide))
       go_wp2_with fail
       go_ret
       exact ⟨by rw [HE.out]; rfl, HB2.out⟩
      | true =>
       rw [if_neg (by rintro (⟨h, _⟩ | ⟨_, h⟩); exact hk0 h; cases h)] at HMC
       have w2eq : True := trivial
       have HCK2 : Hid (Calls Tryz.prog 97 #[.string m.txt] wa fun e w' => e = .returned (.int .i64 (ratCk m.txt.data.toList)) ∧ Below wa.heap.size wa w') := Lib.hid (by
        have h := ratck_any m.txt.data.toList (by rw [Array.length_toList]; exact HTZ.out) wa (HT.out.up HB2.out)
        rwa [show (⟨m.txt.data.toList.toArray⟩ : ByteArray) = m.txt from by cases m.txt; simp] at h)
       obtain ⟨rc, hrc⟩ : ∃ rc, ratCk m.txt.data.toList = rc := ⟨_, rfl⟩
       rw [hrc] at HCK2 HMC
       go_wp2_with fail
       refine HCK2.out.mono ?_
       rintro e w3 ⟨rfl, hb3⟩
       have HB3 := Lib.hid (HB2.out.trans (hb3.mono HB2.out.size))
       have HX3 := Lib.hid (HX2.out.below hb3 HX2.out.lt)
       have HS3 := Lib.hid (HS2.out.below hb3 HS2.out.lt)
       clear hb3 HCK2 hrc
       have t3 := HS3.out.cell 3
       have tl := HS3.out.lt
       by_cases hr0 : rc = 0
       ·subst hr0
        rw [if_neg (by simp)] at HMC
        by_cases hw1 : m.wt < 1
        ·have HE : Hid (mtCk x ms = 4) := Lib.hid (HNZ.out 4 (by rw [HMC.out, if_pos (.inl hw1)]) (by decide))
         go_wp2_with fail
         go_ret
         exact ⟨by rw [HE.out]; rfl, HB3.out⟩
        by_cases hw2 : 1000 < m.wt
        ·have HE : Hid (mtCk x ms = 4) := Lib.hid (HNZ.out 4 (by rw [HMC.out, if_pos (.inr hw2)]) (by decide))
         go_wp2_with fail
         go_ret
         exact ⟨by rw [HE.out]; rfl, HB3.out⟩
        rw [if_neg (by omega)] at HMC
        rw [if_pos HMC.out] at HD
        go_wp2_with fail
        go_roundw
        case rel => exact ⟨k + 1, hlt, val_int HN1.out, HB3.out, HX3.out, HGO.out.trans (HGO.out.symm.trans HD.out)⟩
        case measure => exact HN2.out
       ·have HE : Hid (mtCk x ms = rc) := Lib.hid (HNZ.out rc (by rw [HMC.out, if_pos hr0]) hr0)
        have hr0b : (rc != 0) = true := by simp [hr0]
        clear hr0
        go_wp2_with fail
        go_ret
        exact ⟨by rw [HE.out]; rfl, HB3.out⟩
    ·have hke : k = n := by omega
     have HE : Hid (mtCk x ms = 0) := Lib.hid (by rw [HE1.out, HGO.out, List.drop_eq_nil_of_le (by have := HML.out; omega)]; rfl)
     have hkI : ¬ (k : Int) < (n : Int) := by omega
     go_wp2_with fail
     go_ret
     exact ⟨by rw [HE.out]; rfl, HB.out⟩
 ·have HE : Hid (mtCk x ms = netCk x) := Lib.hid (by unfold mtCk; rw [if_pos h0])
  generalize netCk x = z at *
  subst he
  have h0b : (z != 0) = true := by simp [h0]
  clear h0
  go_wp2_with fail
  go_ret
  exact ⟨by rw [HE.out]; rfl, HB1.out⟩
end
section
open Go.ChangeShapes Go.WideShapes Go.ChangeAt Go.RowKit
attribute [local go_sem ↓] execOp_call_val
attribute [local go_sem] callVal_func setCell_drewN alloc_drewN sEq_walk
def addF (b : Rat) (u v : Nat) (q : List Rat) : List Rat := (q.set u (vf q u + b)).set v (vf (q.set u (vf q u + b)) v - b)
theorem addF_len {b : Rat} {u v : Nat} {q : List Rat} : (addF b u v q).length = q.length := by unfold addF; rw [List.length_set, List.length_set]
def sg (minus : Bool) (b : Rat) : Rat := if minus then -b else b
structure Oth (a b : Nat) (w w' : World) : Prop where
 os : w'.os = w.os
 tape : w'.tape = w.tape
 output : w'.output = w.output
 size : w.heap.size ≤ w'.heap.size
 block : ∀ i, i < w.heap.size → i ≠ a → i ≠ b → w'.heap[i]? = w.heap[i]?
theorem Oth.trans {a b : Nat} {w w1 w2 : World} (h : Oth a b w w1) (k : Oth a b w1 w2) : Oth a b w w2 :=
 ⟨k.os.trans h.os, k.tape.trans h.tape, k.output.trans h.output, Nat.le_trans h.size k.size, fun i hi h1 h2 => (k.block i (Nat.lt_of_lt_of_le hi h.size) h1 h2).trans (h.block i hi h1 h2)⟩
theorem oth_below {a b : Nat} {w w' : World} (h : Below w.heap.size w w') : Oth a b w w' := ⟨h.os, h.tape, h.output, h.size, fun i hi _ _ => h.block i hi⟩
theorem Oth.below {a b B : Nat} {w w' : World} (h : Oth a b w w') (ha : B ≤ a) (hb : B ≤ b) (hB : B ≤ w.heap.size) : Below B w w' := ⟨h.os, h.tape, h.output, h.size, fun i hi => h.block i (by omega) (by omega) (by omega)⟩
theorem Oth.blk {a b g t : Nat} {w w' : World} {cs : Array Value} (h : Oth a b w w') (hb : Blk w g t cs) (h1 : g ≠ a) (h2 : g ≠ b) : Blk w' g t cs := (h.block g hb.lt h1 h2).trans hb
theorem oth_setCell {a b : Nat} {w : World} {i : Nat} {u : Value} : Oth a b w (w.setCell ⟨b, i, none⟩ u) := ⟨rfl, rfl, rfl, by simp [World.setCell], fun k hk h1 h2 => Below.heap_setCell w ⟨b, i, none⟩ u k (fun e => h2 e)⟩
theorem oth_setCellA {a b : Nat} {w : World} {i : Nat} {u : Value} : Oth a b w (w.setCell ⟨a, i, none⟩ u) := ⟨rfl, rfl, rfl, by simp [World.setCell], fun k hk h1 h2 => Below.heap_setCell w ⟨a, i, none⟩ u k (fun e => h1 e)⟩
structure FmS (w : World) (gf gc : Nat) (vs : List Rv) (u : Rv) (q : List Rat) (z : Rat) : Prop where
 blk : Blk w gf 128 #[.slice (some ⟨gc, 0, none⟩) q.length q.length, .bool u.b1, .slice u.A u.n u.c, .bool u.b2, .slice u.A2 u.m u.d]
 row : ∃ cs, Blk w gc 93 cs ∧ cs.toList.take (q.length * 4) = rvs vs
 len : vs.length = q.length
 ok : RvOk w vs q
 val : RtV w w.heap.size z u
section
variable {w w' : World} {gf gc : Nat} {vs : List Rv} {u : Rv} {q : List Rat} {z : Rat}
theorem FmS.up (f : FmS w gf gc vs u q z) (hb : Below w.heap.size w w') : FmS w' gf gc vs u q z := by
 obtain ⟨cs, h1, h2⟩ := f.row
 exact ⟨f.blk.below hb f.blk.lt, ⟨cs, h1.below hb h1.lt, h2⟩, f.len, f.ok.up hb, f.val.up hb⟩
theorem FmS.ne (f : FmS w gf gc vs u q z) : gf ≠ gc := by
 obtain ⟨cs, h1, h2⟩ := f.row
 exact f.blk.apart h1 (by decide)
theorem FmS.elem (f : FmS w gf gc vs u q z) {j : Nat} (hj : j < q.length) : ∃ x, vs[j]? = some x ∧ w.cell? ⟨gc, j * 4, none⟩ = some (.bool x.b1) ∧ w.cell? ⟨gc, j * 4 + 1, none⟩ = some (.slice x.A x.n x.c) ∧ w.cell? ⟨gc, j * 4 + 2, none⟩ = some (.bool x.b2) ∧ w.cell? ⟨gc, j * 4 + 3, none⟩ = some (.slice x.A2 x.m x.d) ∧ RtV w w.heap.size (vf q j) x ∧ gc < w.heap.size ∧ (∀ o, w.frozen? ⟨gc, o, none⟩ = false) := by
 obtain ⟨cs, h1, h2⟩ := f.row
 obtain ⟨x, hx⟩ : ∃ x, vs[j]? = some x := ⟨_, List.getElem?_eq_getElem (by rw [f.len]; exact hj)⟩
 obtain ⟨c0, c1, c2, c3⟩ := h1.row_cell h2 hx
 exact ⟨x, hx, c0, c1, c2, c3, f.ok j _ x (vf_get hj) hx, h1.lt, h1.frozen⟩
theorem FmS.elem2 (f : FmS w gf gc vs u q z) {j : Nat} {x : Rv} (hx : vs[j]? = some x) : w.cell? ⟨gc, j * 4, none⟩ = some (.bool x.b1) ∧ w.cell? ⟨gc, j * 4 + 1, none⟩ = some (.slice x.A x.n x.c) ∧ w.cell? ⟨gc, j * 4 + 2, none⟩ = some (.bool x.b2) ∧ w.cell? ⟨gc, j * 4 + 3, none⟩ = some (.slice x.A2 x.m x.d) ∧ gc < w.heap.size ∧ (∀ o, w.frozen? ⟨gc, o, none⟩ = false) := by
 obtain ⟨cs, h1, h2⟩ := f.row
 obtain ⟨c0, c1, c2, c3⟩ := h1.row_cell h2 hx
 exact ⟨c0, c1, c2, c3, h1.lt, h1.frozen⟩
theorem FmS.keep (f : FmS w gf gc vs u q z) {j : Nat} (hj : j < q.length) {x y : Rv} {p : Rat} (hy : RtV w w.heap.size p y) : RtV (putV w gc j x) (putV w gc j x).heap.size p y := by
 obtain ⟨cs, h1, h2⟩ := f.row
 obtain ⟨x0, hx⟩ : ∃ x, vs[j]? = some x := ⟨_, List.getElem?_eq_getElem (by rw [f.len]; exact hj)⟩
 exact RtV.keep4 hy x h1 h2 hx
theorem FmS.put (f : FmS w gf gc vs u q z) {j : Nat} (hj : j < q.length) {x : Rv} {p : Rat} (hx : RtV w w.heap.size p x) : FmS (putV w gc j x) gf gc (vs.set j x) u (q.set j p) z := by
 obtain ⟨cs, h1, h2⟩ := f.row
 obtain ⟨cs', k1, k2⟩ := h1.row_put x h2 f.len hj
 refine ⟨?_, ⟨cs', k1, by rw [List.length_set]; exact k2⟩, by simp [f.len], fun i p' y hp hy => ?_, f.keep hj f.val⟩
 ·rw [List.length_set]; exact f.blk.far4 x f.ne
 ·rw [List.getElem?_set] at hp hy
  by_cases hij : j = i
  ·subst hij
   rw [if_pos rfl, if_pos hj] at hp
   rw [if_pos rfl, if_pos (by rw [f.len]; exact hj)] at hy
   injection hp with hp
   injection hy with hy
   subst hp; subst hy
   exact f.keep hj hx
  ·rw [if_neg hij] at hp hy
   exact f.keep hj (f.ok i p' y hp hy)
theorem oth_putV {j : Nat} {x : Rv} : Oth gf gc w (putV w gc j x) := ((oth_setCell.trans oth_setCell).trans oth_setCell).trans oth_setCell
def putF (w : World) (gf : Nat) (x : Rv) : World := (((w.setCell ⟨gf, 1, none⟩ (.bool x.b1)).setCell ⟨gf, 2, none⟩ (.slice x.A x.n x.c)).setCell ⟨gf, 3, none⟩ (.bool x.b2)).setCell ⟨gf, 4, none⟩ (.slice x.A2 x.m x.d)
theorem oth_putF {x : Rv} : Oth gf gc w (putF w gf x) := ((oth_setCellA.trans oth_setCellA).trans oth_setCellA).trans oth_setCellA
theorem FmS.free (f : FmS w gf gc vs u q z) {x : Rv} {p : Rat} (hx : RtV w w.heap.size p x) : FmS (putF w gf x) gf gc vs x q p := by
 obtain ⟨cs, h1, h2⟩ := f.row
 have hb := f.blk
 have keep : ∀ {y : Rv} {t : Rat}, RtV w w.heap.size t y → RtV (putF w gf x) (putF w gf x).heap.size t y := fun {y t} hy => by
  have b1 := hb.set_at (i := 1) (cs' := #[.slice (some ⟨gc, 0, none⟩) q.length q.length, .bool x.b1, .slice u.A u.n u.c, .bool u.b2, .slice u.A2 u.m u.d]) (.bool x.b1) (by simp)
  have b2 := b1.set_at (i := 2) (cs' := #[.slice (some ⟨gc, 0, none⟩) q.length q.length, .bool x.b1, .slice x.A x.n x.c, .bool u.b2, .slice u.A2 u.m u.d]) (.slice x.A x.n x.c) (by simp)
  have b3 := b2.set_at (i := 3) (cs' := #[.slice (some ⟨gc, 0, none⟩) q.length q.length, .bool x.b1, .slice x.A x.n x.c, .bool x.b2, .slice u.A2 u.m u.d]) (.bool x.b2) (by simp)
  exact (((hy.keep1 hb (i := 1) (y := .bool u.b1) rfl (fun k x h => by cases h) _).keep1 b1 (i := 2) (y := .slice u.A u.n u.c) rfl slice_ni _).keep1 b2 (i := 3) (y := .bool u.b2) rfl (fun k x h => by cases h) _).keep1 b3 (i := 4) (y := .slice u.A2 u.m u.d) rfl slice_ni _
 refine ⟨?_, ⟨cs, (((h1.far (p := ⟨gf, 1, none⟩) f.ne.symm _).far (p := ⟨gf, 2, none⟩) f.ne.symm _).far (p := ⟨gf, 3, none⟩) f.ne.symm _).far (p := ⟨gf, 4, none⟩) f.ne.symm _, h2⟩, f.len, fun i p' y hp hy => keep (f.ok i p' y hp hy), keep hx⟩
 have := (((hb.set_ 1 (.bool x.b1)).set_ 2 (.slice x.A x.n x.c)).set_ 3 (.bool x.b2)).set_ 4 (.slice x.A2 x.m x.d)
 unfold putF; simpa using this
end
end
section
open Go.ChangeShapes Go.WideShapes Go.ChangeAt Go.RowKit
attribute [local go_sem ↓] execOp_call_val
attribute [local go_sem] callVal_func setCell_drewN alloc_drewN sEq_walk
theorem set_qsz {q : List Rat} {a u j : Nat} {p : Rat} (h : ∀ t ∈ q, qsz t ≤ a) (hp : qsz p ≤ a) (hj : j < (q.set u p).length) : qsz (vf (q.set u p) j) ≤ a := by
 rcases List.mem_or_eq_of_mem_set (List.mem_of_getElem? (vf_get hj)) with h1 | h1
 ·exact h _ h1
 ·rw [h1]; exact hp
theorem two_boxes (w : World) : Blk ((w.alloc (.cells #[.bool false, .slice none 0 0, .bool false, .slice none 0 0] 93)).alloc (.cells #[.bool false, .slice none 0 0, .bool false, .slice none 0 0] 93)).drew w.heap.size 93 #[.bool false, .slice none 0 0, .bool false, .slice none 0 0] ∧ Blk ((w.alloc (.cells #[.bool false, .slice none 0 0, .bool false, .slice none 0 0] 93)).alloc (.cells #[.bool false, .slice none 0 0, .bool false, .slice none 0 0] 93)).drew (w.heap.size + 1) 93 #[.bool false, .slice none 0 0, .bool false, .slice none 0 0] ∧ Below w.heap.size w ((w.alloc (.cells #[.bool false, .slice none 0 0, .bool false, .slice none 0 0] 93)).alloc (.cells #[.bool false, .slice none 0 0, .bool false, .slice none 0 0] 93)).drew :=
 ⟨((Blk.new w _ _).alloc _).drew, (Blk.new_ (by simp)).drew, below_drew (((Below.refl _ w).alloc (Nat.le_refl _) _).alloc (by simp) _)⟩
theorem box_put {w : World} {g T : Nat} {x0 x1 x2 x3 : Value} {v : Rv} (h : Blk w g T #[x0, x1, x2, x3]) : Blk (putQ w g v) g T #[.bool v.b1, .slice v.A v.n v.c, .bool v.b2, .slice v.A2 v.m v.d] := blk_set4 h
theorem box_far {w : World} {g g' T : Nat} {cs : Array Value} {v : Rv} (h : Blk w g' T cs) (hg : g' ≠ g) : Blk (putQ w g v) g' T cs := (((h.far hg _).far hg _).far hg _).far hg _
def AddP (gf gc : Nat) (b c : Rat) (minus : Bool) (u v : Nat) (q : List Rat) (z : Rat) (w : World) (e : Ending) (w' : World) : Prop := e = .returned (.tuple #[]) ∧ Oth gf gc w w' ∧ ∃ vs r, FmS w' gf gc vs r (addF (sg minus b) u v q) (z + sg minus c)
set_option maxRecDepth 100000 in
set_option maxHeartbeats 4000000 in
theorem addm_any (gb g : Nat) (m : ModH) (y : Value) (x : Net) (gf gc : Nat) (vs : List Rv) (u : Rv) (q : List Rat) (z : Rat) (k : Nat) (minus : Bool) (ui vi : Nat) (b c : Rat) (w : World) (B : Nat) (hB1 : B ≤ gf) (hB2 : B ≤ gc) (hgb : gb < B) (hgg : g < B) (hbox : Blk w gb 119 #[.pointer (some ⟨g, 0, none⟩)]) (hg : Blk w g 123 (m.cells y)) (hr0 : RdMod w B m x) (hf : FmS w gf gc vs u q z)
    (hb : (mB x)[k]? = some b) (hc : (mC x)[k]? = some c) (hu : (mFrom x)[k]? = some ui) (hv : (mTo x)[k]? = some vi) (hui : ui < q.length) (hvi : vi < q.length) (hl : x.brs.length ≤ 1000) (hq : q.length ≤ 1000) (h1 : ∀ p ∈ q, qsz p ≤ 1000000) (h2 : qsz b ≤ 1000000) (h3 : qsz c ≤ 1000000) (h4 : qsz z ≤ 1000000) :
    Calls Tryz.prog 110 #[.int .i64 (k : Int), .bool minus, .pointer (some ⟨gb, 0, none⟩), .pointer (some ⟨gf, 0, none⟩)] w (AddP gf gc b c minus ui vi q z w) := by
 have HFL : Hid (gf < w.heap.size) := Lib.hid hf.blk.lt
 have HCL : Hid (gc < w.heap.size) := Lib.hid (by obtain ⟨cs, k1, _⟩ := hf.row; exact k1.lt)
 have HB1 := Lib.hid hB1
 have HB2 := Lib.hid hB2
 have HGB := Lib.hid hgb
 have HGG := Lib.hid hgg
 have HR0 := Lib.hid hr0
 have hr := hr0.more (show B ≤ w.heap.size by have := HFL.out; omega)
 have HG := Lib.hid hg
 have HR := Lib.hid hr
 have HF := Lib.hid hf
 have HBO := Lib.hid hbox
 have HN4 : Hid (x.brs.length = m.n4) := Lib.hid (by rw [← mB_len]; exact hr.r4.len)
 have HN5 : Hid (x.brs.length = m.n5) := Lib.hid (by rw [← mC_len]; exact hr.r5.len)
 have HN2 : Hid (x.brs.length = m.n2) := Lib.hid (by rw [← mFrom_len, ← natJ_len]; exact hr.r2.len)
 have HN3 : Hid (x.brs.length = m.n3) := Lib.hid (by rw [← mTo_len, ← natJ_len]; exact hr.r3.len)
 have HKL : Hid (k < x.brs.length) := Lib.hid (by rw [← mB_len]; exact (List.getElem?_eq_some_iff.1 hb).1)
 have HSB := Lib.hid h2
 have HSC := Lib.hid h3
 have HSQ := Lib.hid h1
 have HSZ := Lib.hid h4
 have HU := Lib.hid hu
 have HV := Lib.hid hv
 have HUL := Lib.hid hui
 have HVL := Lib.hid hvi
 have HQL := Lib.hid hq
 have HLL := Lib.hid hl
 obtain ⟨A0, n0, c0, A1, n1, c1, A2, n2, c2, A3, n3, c3, A4, n4, c4, A5, n5, c5, A6, n6, c6⟩ := m
 simp only [ModH.cells] at HG HN4 HN5 HN2 HN3
 have hr4 := HR.out.r4
 have hr5 := HR.out.r5
 simp only at hr4 hr5
 obtain ⟨bb, bo, hA4, hbb⟩ := hr4.form (by have := HKL.out; have := HN4.out; omega)
 subst hA4
 obtain ⟨xb, p0, p1, p2, p3, p4⟩ := hr4.at_ hb
 obtain ⟨db, do', hA5, hdb⟩ := hr5.form (by have := HKL.out; have := HN5.out; omega)
 subst hA5
 obtain ⟨xc, e0, e1, e2, e3, e4⟩ := hr5.at_ hc
 have HXB := Lib.hid p4
 have HXC := Lib.hid e4
 have hk4 : (k : Int) < (n4 : Int) := by have := HKL.out; have := HN4.out; omega
 have hk5 : (k : Int) < (n5 : Int) := by have := HKL.out; have := HN5.out; omega
 have hk0 : (0 : Int) ≤ (k : Int) := by omega
 have hkn : (k : Int).toNat = k := Int.toNat_natCast k
 have b0 := HBO.out.cell 0
 have bl := HBO.out.lt
 have y4 := HG.out.cell 4
 have y5 := HG.out.cell 5
 have yl := HG.out.lt
 clear hB1 hB2 hgb hgg hr0 hbox hg hr hf hb hc hu hv hui hvi hl hq h1 h2 h3 h4 p4 e4 hr4 hr5
 go_enter Tryz.func110, Tryz.ntmps110
 go_upto_region 0 with fail
 go_cut [6, 7] (fun v6 v7 wc => ∃ g6 g7, v6 = .pointer (some ⟨g6, 0, none⟩) ∧ v7 = .pointer (some ⟨g7, 0, none⟩) ∧ g6 ≠ g7 ∧ Blk wc g6 93 #[.bool xb.b1, .slice xb.A xb.n xb.c, .bool xb.b2, .slice xb.A2 xb.m xb.d] ∧ Blk wc g7 93 #[.bool xc.b1, .slice xc.A xc.n xc.c, .bool xc.b2, .slice xc.A2 xc.m xc.d] ∧ w.heap.size ≤ g6 ∧ w.heap.size ≤ g7 ∧ Below w.heap.size w wc)
 case first =>
  refine wp_region_last (S := fun w' => Below w.heap.size w w') 17 _ (by kernel_rfl) (by kernel_rfl) rfl (below_drew (Below.refl _ _)) (fun hHeld => ?_)
  simp only [List.take_succ_cons, List.take_zero]
  refine tkH 0 rfl (by intro w' _ hcc; go_simp <;> with_reducible rfl) hHeld ?_
  try simp only [Act.put, sA_, sB_, sC_]
  refine tkH 1 rfl (by intro w' _ hcc; go_simp <;> with_reducible rfl) hHeld ?_
  try simp only [Act.put, sA_, sB_, sC_]
  refine tkH 2 rfl (by intro w' _ hcc; go_simp <;> with_reducible rfl) hHeld ?_
  try simp only [Act.put, sA_, sB_, sC_]
  refine tkH 3 rfl (by intro w' _ hcc; go_simp <;> with_reducible rfl) hHeld ?_
  try simp only [Act.put, sA_, sB_, sC_]
  refine tkH 4 rfl (by intro w' _ hcc; go_simp <;> with_reducible rfl) hHeld ?_
  try simp only [Act.put, sA_, sB_, sC_]
  refine tkH 5 rfl (by intro w' _ hcc; go_simp <;> with_reducible rfl) hHeld ?_
  try simp only [Act.put, sA_, sB_, sC_]
  refine tkH 6 rfl (by intro w' _ hcc; go_simp <;> with_reducible rfl) hHeld ?_
  try simp only [Act.put, sA_, sB_, sC_]
  refine tkH 7 rfl (by intro w' _ hcc; go_simp <;> with_reducible rfl) hHeld ?_
  try simp only [Act.put, sA_, sB_, sC_]
  refine tkH 8 rfl (by intro w' _ hcc; go_simp <;> with_reducible rfl) hHeld ?_
  try simp only [Act.put, sA_, sB_, sC_]
  refine tkH 9 rfl (by intro w' _ hcc; go_simp <;> with_reducible rfl) hHeld ?_
  try simp only [Act.put, sA_, sB_, sC_]
  refine tkH 10 rfl (by intro w' _ hcc; go_simp <;> with_reducible rfl) hHeld ?_
  try simp only [Act.put, sA_, sB_, sC_]
  refine tkH 11 rfl (by intro w' _ hcc; go_simp <;> with_reducible rfl) hHeld ?_
  try simp only [Act.put, sA_, sB_, sC_]
  refine tkH 12 rfl (by intro w' _ hcc; go_simp <;> with_reducible rfl) hHeld ?_
  try simp only [Act.put, sA_, sB_, sC_]
  refine tkH 13 rfl (by intro w' _ hcc; go_simp <;> with_reducible rfl) hHeld ?_
  try simp only [Act.put, sA_, sB_, sC_]
  refine stepTwo 14 15 (by kernel_rfl) rfl rfl (fun K hK => ?_) (fun K hK => ?_)
  ·go_simp
   have HA := Lib.hid ((below_drew (Below.refl w.heap.size w)).alloc (Nat.le_refl _) (.cells #[.bool false, .slice none 0 0, .bool false, .slice none 0 0] 93))
   refine hK.out _ _ ?_ (fun hHeld => ?_)
   ·exact HA.out
   clear hK K HA
   try simp only [Act.put, sA_, sB_, sC_]
   refine stepH 15 (by kernel_rfl) rfl (fun K hK => ?_)
   go_simp
   obtain ⟨ha, hb, hc⟩ := two_boxes w
   generalize ((w.alloc (.cells #[.bool false, .slice none 0 0, .bool false, .slice none 0 0] 93)).alloc (.cells #[.bool false, .slice none 0 0, .bool false, .slice none 0 0] 93)).drew = W at ha hb hc ⊢
   have HG6 := Lib.hid ha
   have HG7 := Lib.hid hb
   have HW := Lib.hid hc
   clear ha hb hc
   refine hK.out _ _ ?_ (fun hHeld => ?_)
   ·exact HW.out
   clear hK K
   try simp only [Act.put, sA_, sB_, sC_]
   refine stepH 16 (by kernel_rfl) rfl (fun K hK => ?_)
   have z0 := HG6.out.cell 0
   have z1 := HG6.out.cell 1
   have z2 := HG6.out.cell 2
   have z3 := HG6.out.cell 3
   have zl := HG6.out.lt
   have zf := HG6.out.frozen
   go_simp
   clear z0 z1 z2 z3 zl zf
   have HW2 := Lib.hid (below_putQ (v := xb) HW.out (g := w.heap.size) (by omega))
   have HG6b := Lib.hid (box_put (v := xb) HG6.out)
   have HG7b := Lib.hid (box_far (v := xb) HG7.out (show (w.heap.size + 1) ≠ w.heap.size by omega))
   unfold putQ at HW2 HG6b HG7b
   generalize (((W.setCell ⟨w.heap.size, 0, none⟩ _).setCell ⟨w.heap.size, 1, none⟩ _).setCell ⟨w.heap.size, 2, none⟩ _).setCell ⟨w.heap.size, 3, none⟩ _ = W2 at HW2 HG6b HG7b ⊢
   refine hK.out _ _ ?_ (fun hHeld => ?_)
   ·exact HW2.out
   clear hK K HG6 HG7 HW
   try simp only [Act.put, sA_, sB_, sC_]
   refine wpAnyH_done (by kernel_rfl) ?_ _
   refine lastQ_go (by rfl) ?_
   have z0 := HG7b.out.cell 0
   have z1 := HG7b.out.cell 1
   have z2 := HG7b.out.cell 2
   have z3 := HG7b.out.cell 3
   have zl := HG7b.out.lt
   have zf := HG7b.out.frozen
   go_wp2_with fail
   go_meet
   case rel => exact ⟨_, _, rfl, rfl, by omega, box_far (v := xc) HG6b.out (show w.heap.size ≠ (w.heap.size + 1) by omega), box_put (v := xc) HG7b.out, by omega, by omega, below_putQ (v := xc) HW2.out (by omega)⟩
  ·go_simp
   have HA := Lib.hid ((below_drew (Below.refl w.heap.size w)).alloc (Nat.le_refl _) (.cells #[.bool false, .slice none 0 0, .bool false, .slice none 0 0] 93))
   refine hK.out _ _ ?_ (fun hHeld => ?_)
   ·exact HA.out
   clear hK K HA
   try simp only [Act.put, sA_, sB_, sC_]
   refine stepH 14 (by kernel_rfl) rfl (fun K hK => ?_)
   go_simp
   obtain ⟨ha, hb, hc⟩ := two_boxes w
   generalize ((w.alloc (.cells #[.bool false, .slice none 0 0, .bool false, .slice none 0 0] 93)).alloc (.cells #[.bool false, .slice none 0 0, .bool false, .slice none 0 0] 93)).drew = W at ha hb hc ⊢
   have HG6 := Lib.hid hb
   have HG7 := Lib.hid ha
   have HW := Lib.hid hc
   clear ha hb hc
   refine hK.out _ _ ?_ (fun hHeld => ?_)
   ·exact HW.out
   clear hK K
   try simp only [Act.put, sA_, sB_, sC_]
   refine stepH 16 (by kernel_rfl) rfl (fun K hK => ?_)
   have z0 := HG6.out.cell 0
   have z1 := HG6.out.cell 1
   have z2 := HG6.out.cell 2
   have z3 := HG6.out.cell 3
   have zl := HG6.out.lt
   have zf := HG6.out.frozen
   go_simp
   clear z0 z1 z2 z3 zl zf
   have HW2 := Lib.hid (below_putQ (v := xb) HW.out (g := (w.heap.size + 1)) (by omega))
   have HG6b := Lib.hid (box_put (v := xb) HG6.out)
   have HG7b := Lib.hid (box_far (v := xb) HG7.out (show w.heap.size ≠ (w.heap.size + 1) by omega))
   unfold putQ at HW2 HG6b HG7b
   generalize (((W.setCell ⟨(w.heap.size + 1), 0, none⟩ _).setCell ⟨(w.heap.size + 1), 1, none⟩ _).setCell ⟨(w.heap.size + 1), 2, none⟩ _).setCell ⟨(w.heap.size + 1), 3, none⟩ _ = W2 at HW2 HG6b HG7b ⊢
   refine hK.out _ _ ?_ (fun hHeld => ?_)
   ·exact HW2.out
   clear hK K HG6 HG7 HW
   try simp only [Act.put, sA_, sB_, sC_]
   refine wpAnyH_done (by kernel_rfl) ?_ _
   refine lastQ_go (by rfl) ?_
   have z0 := HG7b.out.cell 0
   have z1 := HG7b.out.cell 1
   have z2 := HG7b.out.cell 2
   have z3 := HG7b.out.cell 3
   have zl := HG7b.out.lt
   have zf := HG7b.out.frozen
   go_wp2_with fail
   go_meet
   case rel => exact ⟨_, _, rfl, rfl, by omega, box_far (v := xc) HG6b.out (show (w.heap.size + 1) ≠ w.heap.size by omega), box_put (v := xc) HG7b.out, by omega, by omega, below_putQ (v := xc) HW2.out (by omega)⟩
 case rest =>
  obtain ⟨g6, g7, rfl, rfl, hne, hb6, hb7, hl6, hl7, hbw⟩ := hcut
  have HW := Lib.hid hbw
  have H6 := Lib.hid hb6
  have H7 := Lib.hid hb7
  have HNE := Lib.hid hne
  have HL6 := Lib.hid hl6
  have HL7 := Lib.hid hl7
  replace HXB := Lib.hid (HXB.out.up HW.out)
  replace HXC := Lib.hid (HXC.out.up HW.out)
  clear hne hb6 hb7 hl6 hl7 hbw p0 p1 p2 p3 e0 e1 e2 e3 b0 bl y4 y5 yl hbb hdb hk4 hk5
  go_upto_if 22 with fail
  go_cut [] (fun wd => ∃ sb sc, Blk wd g6 93 #[.bool sb.b1, .slice sb.A sb.n sb.c, .bool sb.b2, .slice sb.A2 sb.m sb.d] ∧ Blk wd g7 93 #[.bool sc.b1, .slice sc.A sc.n sc.c, .bool sc.b2, .slice sc.A2 sc.m sc.d] ∧ RtV wd wd.heap.size (sg minus b) sb ∧ RtV wd wd.heap.size (sg minus c) sc ∧ Below w.heap.size w wd)
  case first =>
   cases minus with
   | false =>
    go_wp2_with fail
    go_meet
    case rel => exact ⟨xb, xc, H6.out, H7.out, HXB.out, HXC.out, HW.out⟩
   | true =>
    go_upto_region 2 with fail
    generalize wc = W at *
    have s0 := H6.out.cell 0
    have s1 := H6.out.cell 1
    have s2 := H6.out.cell 2
    have s3 := H6.out.cell 3
    have t0 := H7.out.cell 0
    have t1 := H7.out.cell 1
    have t2 := H7.out.cell 2
    have t3 := H7.out.cell 3
    have sl := H6.out.lt
    have tl := H7.out.lt
    refine wp_region_last2 (S := fun w' => Below W.heap.size W w') 4 _ _ (by kernel_rfl) (by kernel_rfl) (by kernel_rfl) rfl rfl (below_drew (Below.refl _ _)) (fun hHeld => ?_)
    simp only [List.take_succ_cons, List.take_zero]
    refine tkH 0 rfl (by intro w' _ hcc; go_simp <;> with_reducible rfl) hHeld ?_
    try simp only [Act.put, sA_, sB_, sC_]
    refine tkH 2 rfl (by intro w' _ hcc; go_simp <;> with_reducible rfl) hHeld ?_
    try simp only [Act.put, sA_, sB_, sC_]
    refine stepH 1 (by kernel_rfl) rfl (fun K hK => ?_)
    go_simp
    refine (negV (HXB.out.up (below_drew (Below.refl _ _)))).mono ?_
    rintro e w3 ⟨hb3, v3, rfl, h3⟩
    have HB3 := Lib.hid ((below_drew (Below.refl W.heap.size W)).trans hb3)
    have H3 := Lib.hid h3
    clear hb3 h3
    go_simp
    refine hK.out _ _ ?_ (fun hHeld => ?_)
    ·exact HB3.out
    clear hK K
    try simp only [Act.put, sA_, sB_, sC_]
    refine stepH 3 (by kernel_rfl) rfl (fun K hK => ?_)
    go_simp
    refine (negV (HXC.out.up HB3.out)).mono ?_
    rintro e w4 ⟨hb4, v4, rfl, h4⟩
    have HB4 := Lib.hid (HB3.out.trans (hb4.mono HB3.out.size))
    have H4 := Lib.hid h4
    replace H3 := Lib.hid (H3.out.up hb4)
    clear hb4 h4
    go_simp
    refine hK.out _ _ ?_ (fun hHeld => ?_)
    ·exact HB4.out
    clear hK K
    try simp only [Act.put, sA_, sB_, sC_]
    refine wpAnyH_done (by kernel_rfl) ?_ _
    refine lastQ_go (by rfl) ?_
    have H6b := Lib.hid (H6.out.below HB4.out H6.out.lt)
    have H7b := Lib.hid (H7.out.below HB4.out H7.out.lt)
    have HWb := Lib.hid (HW.out.trans (HB4.out.mono HW.out.size))
    clear s0 s1 s2 s3 t0 t1 t2 t3 sl tl
    have z0 := H6b.out.cell 0
    have z1 := H6b.out.cell 1
    have z2 := H6b.out.cell 2
    have z3 := H6b.out.cell 3
    have zl := H6b.out.lt
    have zf := H6b.out.frozen
    go_simp
    clear z0 z1 z2 z3 zl zf
    have HWc := Lib.hid (below_putQ (v := v3) HWb.out (g := g6) HL6.out)
    have H6c := Lib.hid (box_put (v := v3) H6b.out)
    have H7c := Lib.hid (box_far (v := v3) H7b.out (fun e => HNE.out e.symm))
    have H3c := Lib.hid (H3.out.keepq H6b.out (v := v3))
    have H4c := Lib.hid (H4.out.keepq H6b.out (v := v3))
    unfold putQ at HWc H6c H7c
    generalize (((w4.setCell ⟨g6, 0, none⟩ _).setCell ⟨g6, 1, none⟩ _).setCell ⟨g6, 2, none⟩ _).setCell ⟨g6, 3, none⟩ _ = w5 at HWc H6c H7c H3c H4c ⊢
    refine lastQ_go (by rfl) ?_
    have z0 := H7c.out.cell 0
    have z1 := H7c.out.cell 1
    have z2 := H7c.out.cell 2
    have z3 := H7c.out.cell 3
    have zl := H7c.out.lt
    have zf := H7c.out.frozen
    go_wp2_with fail
    go_meet
    case rel => exact ⟨v3, v4, box_far (v := v4) H6c.out HNE.out, box_put (v := v4) H7c.out, H3c.out.keepq H7c.out (v := v4), H4c.out.keepq H7c.out (v := v4), below_putQ (v := v4) HWc.out HL7.out⟩
  case rest =>
   generalize wc = wd at *
   obtain ⟨sb, sc, hb6, hb7, hvb, hvc, hbw⟩ := hcut
   clear H6 H7 HXB HXC HW
   have H6 := Lib.hid hb6
   have H7 := Lib.hid hb7
   have HVB := Lib.hid hvb
   have HVC := Lib.hid hvc
   replace HF := Lib.hid (HF.out.up hbw)
   have HO : Hid (Oth gf gc w wd) := Lib.hid (oth_below hbw)
   replace HSB : Hid (qsz (sg minus b) ≤ 1000000) := Lib.hid (by unfold sg; cases minus; exact HSB.out; rw [if_pos rfl, neg_qsz]; exact HSB.out)
   replace HSC : Hid (qsz (sg minus c) ≤ 1000000) := Lib.hid (by unfold sg; cases minus; exact HSC.out; rw [if_pos rfl, neg_qsz]; exact HSC.out)
   clear hb6 hb7 hvb hvc hbw
   generalize hsb : sg minus b = sgb at *
   generalize hsc : sg minus c = sgc at *
   have HS1 := Lib.hid hsb
   have HS0 := Lib.hid hsc
   clear hsb hsc
   go_upto_region 3 with fail
   have HBW := Lib.hid (HO.out.below HB1.out HB2.out (by have := HFL.out; have := HB1.out; omega))
   have HGw := Lib.hid (HG.out.below HBW.out HGG.out)
   have HBOw := Lib.hid (HBO.out.below HBW.out HGB.out)
   have hrI := (HR0.out.below HBW.out (Nat.le_refl _)).r2
   simp only at hrI
   have hrI2 := hrI.2 (by have := HKL.out; have := HN2.out; omega)
   obtain ⟨fb2, fo2, hA, hfb, -⟩ := hrI2
   subst hA
   have f0 := hrI.at_ (natJ_at HU.out)
   have hfl : fb2 < wd.heap.size := by have := HO.out.size; have := HB1.out; have := HFL.out; omega
   obtain ⟨xe, hx, c0, c1, c2', c3', hv, l1, f1⟩ := HF.out.elem HUL.out
   have HXX := Lib.hid hx
   have HVV := Lib.hid hv
   have HQS : Hid (qsz (vf q ui) + qsz sgb + 1 ≤ 35184372088832) := Lib.hid (by have h5 := HSQ.out _ (List.mem_of_getElem? (vf_get HUL.out)); have h6 := HSB.out; omega)
   have z0 := H6.out.cell 0
   have z1 := H6.out.cell 1
   have z2 := H6.out.cell 2
   have z3 := H6.out.cell 3
   have zl := H6.out.lt
   have b0 := HBOw.out.cell 0
   have bl := HBOw.out.lt
   have y2 := HGw.out.cell 2
   have yl := HGw.out.lt
   have q0 := HF.out.blk.cell 0
   have ql := HF.out.blk.lt
   have hkI : (k : Int) < (n2 : Int) := by have := HKL.out; have := HN2.out; omega
   have hixI : (ui : Int) < (q.length : Int) := by have := HUL.out; omega
   have hix0 : (0 : Int) ≤ (ui : Int) := by omega
   have hixn : (ui : Int).toNat = ui := Int.toNat_natCast ui
   have HB4 := Lib.hid (below_drew (Below.refl wd.heap.size wd))
   clear hrI hfb hx hv HBW HGw HBOw
   refine wp_region_last (S := fun w' => Below wd.heap.size wd w') 23 _ (by kernel_rfl) (by kernel_rfl) rfl (below_drew (Below.refl _ _)) (fun hHeld => ?_)
   simp only [List.take_succ_cons, List.take_zero]
   refine tkH 0 rfl (by intro w' _ hcc; go_simp <;> with_reducible rfl) hHeld ?_
   try simp only [Act.put, sA_, sB_, sC_]
   refine tkH 1 rfl (by intro w' _ hcc; go_simp <;> with_reducible rfl) hHeld ?_
   try simp only [Act.put, sA_, sB_, sC_]
   refine tkH 2 rfl (by intro w' _ hcc; go_simp <;> with_reducible rfl) hHeld ?_
   try simp only [Act.put, sA_, sB_, sC_]
   refine tkH 3 rfl (by intro w' _ hcc; go_simp <;> with_reducible rfl) hHeld ?_
   try simp only [Act.put, sA_, sB_, sC_]
   refine tkH 4 rfl (by intro w' _ hcc; go_simp <;> with_reducible rfl) hHeld ?_
   try simp only [Act.put, sA_, sB_, sC_]
   refine tkH 5 rfl (by intro w' _ hcc; go_simp <;> with_reducible rfl) hHeld ?_
   try simp only [Act.put, sA_, sB_, sC_]
   refine tkH 6 rfl (by intro w' _ hcc; go_simp <;> with_reducible rfl) hHeld ?_
   try simp only [Act.put, sA_, sB_, sC_]
   refine tkH 7 rfl (by intro w' _ hcc; go_simp <;> with_reducible rfl) hHeld ?_
   try simp only [Act.put, sA_, sB_, sC_]
   refine tkH 8 rfl (by intro w' _ hcc; go_simp <;> with_reducible rfl) hHeld ?_
   try simp only [Act.put, sA_, sB_, sC_]
   refine tkH 9 rfl (by intro w' _ hcc; go_simp <;> with_reducible rfl) hHeld ?_
   try simp only [Act.put, sA_, sB_, sC_]
   refine tkH 10 rfl (by intro w' _ hcc; go_simp <;> with_reducible rfl) hHeld ?_
   try simp only [Act.put, sA_, sB_, sC_]
   refine tkH 11 rfl (by intro w' _ hcc; go_simp <;> with_reducible rfl) hHeld ?_
   try simp only [Act.put, sA_, sB_, sC_]
   refine tkH 12 rfl (by intro w' _ hcc; go_simp <;> with_reducible rfl) hHeld ?_
   try simp only [Act.put, sA_, sB_, sC_]
   refine tkH 13 rfl (by intro w' _ hcc; go_simp <;> with_reducible rfl) hHeld ?_
   try simp only [Act.put, sA_, sB_, sC_]
   refine tkH 14 rfl (by intro w' _ hcc; go_simp <;> with_reducible rfl) hHeld ?_
   try simp only [Act.put, sA_, sB_, sC_]
   refine tkH 15 rfl (by intro w' _ hcc; go_simp <;> with_reducible rfl) hHeld ?_
   try simp only [Act.put, sA_, sB_, sC_]
   refine tkH 16 rfl (by intro w' _ hcc; go_simp <;> with_reducible rfl) hHeld ?_
   try simp only [Act.put, sA_, sB_, sC_]
   refine tkH 17 rfl (by intro w' _ hcc; go_simp <;> with_reducible rfl) hHeld ?_
   try simp only [Act.put, sA_, sB_, sC_]
   refine tkH 18 rfl (by intro w' _ hcc; go_simp <;> with_reducible rfl) hHeld ?_
   try simp only [Act.put, sA_, sB_, sC_]
   refine tkH 19 rfl (by intro w' _ hcc; go_simp <;> with_reducible rfl) hHeld ?_
   try simp only [Act.put, sA_, sB_, sC_]
   refine tkH 20 rfl (by intro w' _ hcc; go_simp <;> with_reducible rfl) hHeld ?_
   try simp only [Act.put, sA_, sB_, sC_]
   refine stepH 21 (by kernel_rfl) rfl (fun K hK => ?_)
   go_simp
   refine (addV (HVV.out.up HB4.out) (HVB.out.up HB4.out) HQS.out).mono ?_
   rintro e w8 ⟨hb8, v8, rfl, h8⟩
   have HB8 : Hid (Below wd.heap.size wd w8) := Lib.hid (HB4.out.trans (hb8.mono HB4.out.size))
   have H8 := Lib.hid h8
   clear hb8 h8
   go_simp
   refine hK.out _ _ ?_ (fun hHeld => ?_)
   ·exact HB8.out
   clear hK K
   try simp only [Act.put, sA_, sB_, sC_]
   refine tkH 22 rfl (by intro w' _ hcc; go_simp <;> with_reducible rfl) hHeld ?_
   try simp only [Act.put, sA_, sB_, sC_]
   refine wpAnyH_done (by kernel_rfl) ?_ _
   refine lastQ_go (by rfl) ?_
   clear hHeld
   have HF8 := Lib.hid (HF.out.up HB8.out)
   have H68 := Lib.hid (H6.out.below HB8.out H6.out.lt)
   have H78 := Lib.hid (H7.out.below HB8.out H7.out.lt)
   have HVB8 := Lib.hid (HVB.out.up HB8.out)
   have HVC8 := Lib.hid (HVC.out.up HB8.out)
   have HO8 : Hid (Oth gf gc w w8) := Lib.hid (HO.out.trans (oth_below HB8.out))
   clear c0 c1 c2' c3' l1 f1 z0 z1 z2 z3 zl b0 bl y2 yl q0 ql f0 hfl HF H6 H7 HVB HVC HO HVV HQS HB4 HB8
   obtain ⟨c0, c1, c2', c3', l1, f1⟩ := HF8.out.elem2 HXX.out
   go_upto_region 4 with fail
   clear c0 c1 c2' c3' l1 f1
   have HF := Lib.hid (HF8.out.put HUL.out H8.out)
   have H6 := Lib.hid (H68.out.far4 (i := ui) v8 (show g6 ≠ gc by have := HL6.out; have := HCL.out; omega))
   have H7 := Lib.hid (H78.out.far4 (i := ui) v8 (show g7 ≠ gc by have := HL7.out; have := HCL.out; omega))
   have HVB := Lib.hid (HF8.out.keep HUL.out (x := v8) HVB8.out)
   have HVC := Lib.hid (HF8.out.keep HUL.out (x := v8) HVC8.out)
   have HO : Hid (Oth gf gc w (putV w8 gc ui v8)) := Lib.hid (HO8.out.trans oth_putV)
   clear HF8 H68 H78 HVB8 HVC8 HO8 H8 HXX hixI hix0 hixn hkI
   simp only [putV] at HF H6 H7 HVB HVC HO
   generalize (((w8.setCell ⟨gc, ui * 4, none⟩ _).setCell ⟨gc, ui * 4 + 1, none⟩ _).setCell ⟨gc, ui * 4 + 2, none⟩ _).setCell ⟨gc, ui * 4 + 3, none⟩ _ = we at *
   have HVL2 : Hid (vi < (q.set ui (vf q ui + sgb)).length) := Lib.hid (by rw [List.length_set]; exact HVL.out)
   generalize vs.set ui _ = vs1 at *
   obtain ⟨q1, hq1⟩ : ∃ q1, q.set ui (vf q ui + sgb) = q1 := ⟨_, rfl⟩
   have HQE := Lib.hid hq1
   have HS2 : Hid (qsz (vf (q.set ui (vf q ui + sgb)) vi) + qsz sgb + 1 ≤ 35184372088832) := Lib.hid (by have h5 := set_qsz (a := 2000001) (u := ui) (p := vf q ui + sgb) (fun p hp => Nat.le_trans (HSQ.out p hp) (by decide)) (by have := add_qsz (vf q ui) sgb; have := HSQ.out _ (List.mem_of_getElem? (vf_get HUL.out)); have := HSB.out; omega) HVL2.out; have h6 := HSB.out; omega)
   rw [hq1] at HF HVL2 HS2
   clear hq1
   have HBW := Lib.hid (HO.out.below HB1.out HB2.out (by have := HFL.out; have := HB1.out; omega))
   have HGw := Lib.hid (HG.out.below HBW.out HGG.out)
   have HBOw := Lib.hid (HBO.out.below HBW.out HGB.out)
   have hrI := (HR0.out.below HBW.out (Nat.le_refl _)).r3
   simp only at hrI
   have hrI2 := hrI.2 (by have := HKL.out; have := HN3.out; omega)
   obtain ⟨fb3, fo3, hA, hfb, -⟩ := hrI2
   subst hA
   have f0 := hrI.at_ (natJ_at HV.out)
   have hfl : fb3 < we.heap.size := by have := HO.out.size; have := HB1.out; have := HFL.out; omega
   obtain ⟨xe, hx, c0, c1, c2', c3', hv, l1, f1⟩ := HF.out.elem HVL2.out
   have HXX := Lib.hid hx
   have HVV := Lib.hid hv
   have HQS : Hid (qsz (vf q1 vi) + qsz sgb + 1 ≤ 35184372088832) := Lib.hid (by exact HS2.out)
   have z0 := H6.out.cell 0
   have z1 := H6.out.cell 1
   have z2 := H6.out.cell 2
   have z3 := H6.out.cell 3
   have zl := H6.out.lt
   have b0 := HBOw.out.cell 0
   have bl := HBOw.out.lt
   have y2 := HGw.out.cell 3
   have yl := HGw.out.lt
   have q0 := HF.out.blk.cell 0
   have ql := HF.out.blk.lt
   have hkI : (k : Int) < (n3 : Int) := by have := HKL.out; have := HN3.out; omega
   have hixI : (vi : Int) < (q1.length : Int) := by have := HVL2.out; omega
   have hix0 : (0 : Int) ≤ (vi : Int) := by omega
   have hixn : (vi : Int).toNat = vi := Int.toNat_natCast vi
   have HB4 := Lib.hid (below_drew (Below.refl we.heap.size we))
   clear hrI hfb hx hv HBW HGw HBOw
   refine wp_region_last (S := fun w' => Below we.heap.size we w') 23 _ (by kernel_rfl) (by kernel_rfl) rfl (below_drew (Below.refl _ _)) (fun hHeld => ?_)
   simp only [List.take_succ_cons, List.take_zero]
   refine tkH 0 rfl (by intro w' _ hcc; go_simp <;> with_reducible rfl) hHeld ?_
   try simp only [Act.put, sA_, sB_, sC_]
   refine tkH 1 rfl (by intro w' _ hcc; go_simp <;> with_reducible rfl) hHeld ?_
   try simp only [Act.put, sA_, sB_, sC_]
   refine tkH 2 rfl (by intro w' _ hcc; go_simp <;> with_reducible rfl) hHeld ?_
   try simp only [Act.put, sA_, sB_, sC_]
   refine tkH 3 rfl (by intro w' _ hcc; go_simp <;> with_reducible rfl) hHeld ?_
   try simp only [Act.put, sA_, sB_, sC_]
   refine tkH 4 rfl (by intro w' _ hcc; go_simp <;> with_reducible rfl) hHeld ?_
   try simp only [Act.put, sA_, sB_, sC_]
   refine tkH 5 rfl (by intro w' _ hcc; go_simp <;> with_reducible rfl) hHeld ?_
   try simp only [Act.put, sA_, sB_, sC_]
   refine tkH 6 rfl (by intro w' _ hcc; go_simp <;> with_reducible rfl) hHeld ?_
   try simp only [Act.put, sA_, sB_, sC_]
   refine tkH 7 rfl (by intro w' _ hcc; go_simp <;> with_reducible rfl) hHeld ?_
   try simp only [Act.put, sA_, sB_, sC_]
   refine tkH 8 rfl (by intro w' _ hcc; go_simp <;> with_reducible rfl) hHeld ?_
   try simp only [Act.put, sA_, sB_, sC_]
   refine tkH 9 rfl (by intro w' _ hcc; go_simp <;> with_reducible rfl) hHeld ?_
   try simp only [Act.put, sA_, sB_, sC_]
   refine tkH 10 rfl (by intro w' _ hcc; go_simp <;> with_reducible rfl) hHeld ?_
   try simp only [Act.put, sA_, sB_, sC_]
   refine tkH 11 rfl (by intro w' _ hcc; go_simp <;> with_reducible rfl) hHeld ?_
   try simp only [Act.put, sA_, sB_, sC_]
   refine tkH 12 rfl (by intro w' _ hcc; go_simp <;> with_reducible rfl) hHeld ?_
   try simp only [Act.put, sA_, sB_, sC_]
   refine tkH 13 rfl (by intro w' _ hcc; go_simp <;> with_reducible rfl) hHeld ?_
   try simp only [Act.put, sA_, sB_, sC_]
   refine tkH 14 rfl (by intro w' _ hcc; go_simp <;> with_reducible rfl) hHeld ?_
   try simp only [Act.put, sA_, sB_, sC_]
   refine tkH 15 rfl (by intro w' _ hcc; go_simp <;> with_reducible rfl) hHeld ?_
   try simp only [Act.put, sA_, sB_, sC_]
   refine tkH 16 rfl (by intro w' _ hcc; go_simp <;> with_reducible rfl) hHeld ?_
   try simp only [Act.put, sA_, sB_, sC_]
   refine tkH 17 rfl (by intro w' _ hcc; go_simp <;> with_reducible rfl) hHeld ?_
   try simp only [Act.put, sA_, sB_, sC_]
   refine tkH 18 rfl (by intro w' _ hcc; go_simp <;> with_reducible rfl) hHeld ?_
   try simp only [Act.put, sA_, sB_, sC_]
   refine tkH 19 rfl (by intro w' _ hcc; go_simp <;> with_reducible rfl) hHeld ?_
   try simp only [Act.put, sA_, sB_, sC_]
   refine tkH 20 rfl (by intro w' _ hcc; go_simp <;> with_reducible rfl) hHeld ?_
   try simp only [Act.put, sA_, sB_, sC_]
   refine stepH 21 (by kernel_rfl) rfl (fun K hK => ?_)
   go_simp
   refine (subV (HVV.out.up HB4.out) (HVB.out.up HB4.out) HQS.out).mono ?_
   rintro e w8 ⟨hb8, v8, rfl, h8⟩
   have HB8 : Hid (Below we.heap.size we w8) := Lib.hid (HB4.out.trans (hb8.mono HB4.out.size))
   have H8 := Lib.hid h8
   clear hb8 h8
   go_simp
   refine hK.out _ _ ?_ (fun hHeld => ?_)
   ·exact HB8.out
   clear hK K
   try simp only [Act.put, sA_, sB_, sC_]
   refine tkH 22 rfl (by intro w' _ hcc; go_simp <;> with_reducible rfl) hHeld ?_
   try simp only [Act.put, sA_, sB_, sC_]
   refine wpAnyH_done (by kernel_rfl) ?_ _
   refine lastQ_go (by rfl) ?_
   clear hHeld
   have HF8 := Lib.hid (HF.out.up HB8.out)
   have H68 := Lib.hid (H6.out.below HB8.out H6.out.lt)
   have H78 := Lib.hid (H7.out.below HB8.out H7.out.lt)
   have HVB8 := Lib.hid (HVB.out.up HB8.out)
   have HVC8 := Lib.hid (HVC.out.up HB8.out)
   have HO8 : Hid (Oth gf gc w w8) := Lib.hid (HO.out.trans (oth_below HB8.out))
   clear c0 c1 c2' c3' l1 f1 z0 z1 z2 z3 zl b0 bl y2 yl q0 ql f0 hfl HF H6 H7 HVB HVC HO HVV HQS HB4 HB8
   obtain ⟨c0, c1, c2', c3', l1, f1⟩ := HF8.out.elem2 HXX.out
   go_upto_region 5 with fail
   clear c0 c1 c2' c3' l1 f1
   have HF := Lib.hid (HF8.out.put HVL2.out H8.out)
   have H6 := Lib.hid (H68.out.far4 (i := vi) v8 (show g6 ≠ gc by have := HL6.out; have := HCL.out; omega))
   have H7 := Lib.hid (H78.out.far4 (i := vi) v8 (show g7 ≠ gc by have := HL7.out; have := HCL.out; omega))
   have HVB := Lib.hid (HF8.out.keep HVL2.out (x := v8) HVB8.out)
   have HVC := Lib.hid (HF8.out.keep HVL2.out (x := v8) HVC8.out)
   have HO : Hid (Oth gf gc w (putV w8 gc vi v8)) := Lib.hid (HO8.out.trans oth_putV)
   clear HF8 H68 H78 HVB8 HVC8 HO8 H8 HXX hixI hix0 hixn hkI
   simp only [putV] at HF H6 H7 HVB HVC HO
   generalize (((w8.setCell ⟨gc, vi * 4, none⟩ _).setCell ⟨gc, vi * 4 + 1, none⟩ _).setCell ⟨gc, vi * 4 + 2, none⟩ _).setCell ⟨gc, vi * 4 + 3, none⟩ _ = wf at *
   have HE : Hid (q1.set vi (vf q1 vi - sgb) = addF sgb ui vi q) := Lib.hid (by unfold addF; rw [HQE.out])
   rw [HE.out] at HF
   clear HE HQE HS2
   generalize hq2 : addF sgb ui vi q = q2 at *
   have HQ2 := Lib.hid hq2
   clear hq2
   generalize vs1.set vi _ = vs2 at *
   have HQS : Hid (qsz z + qsz sgc + 1 ≤ 35184372088832) := Lib.hid (by have := HSZ.out; have := HSC.out; omega)
   have z0 := H7.out.cell 0
   have z1 := H7.out.cell 1
   have z2 := H7.out.cell 2
   have z3 := H7.out.cell 3
   have zl := H7.out.lt
   have q4 := HF.out.blk.cell 0
   have q5 := HF.out.blk.cell 1
   have q6 := HF.out.blk.cell 2
   have q7 := HF.out.blk.cell 3
   have q8 := HF.out.blk.cell 4
   have ql := HF.out.blk.lt
   go_wp2_with fail
   refine (addV HF.out.val HVC.out HQS.out).mono ?_
   rintro e w9 ⟨hb9, v9, rfl, h9⟩
   have HF9 := Lib.hid (HF.out.up hb9)
   have H9 := Lib.hid h9
   have HO9 : Hid (Oth gf gc w w9) := Lib.hid (HO.out.trans (oth_below hb9))
   clear hb9 h9 q4 q5 q6 q7 q8 ql z0 z1 z2 z3 zl HF HO
   have q4 := HF9.out.blk.cell 0
   have q5 := HF9.out.blk.cell 1
   have q6 := HF9.out.blk.cell 2
   have q7 := HF9.out.blk.cell 3
   have q8 := HF9.out.blk.cell 4
   have ql := HF9.out.blk.lt
   have qf := HF9.out.blk.frozen
   go_wp2_with fail
   go_end0
   exact ⟨rfl, HO9.out.trans oth_putF, vs2, v9, by rw [HS1.out, HS0.out, HQ2.out]; exact HF9.out.free H9.out⟩
end
end Go.Proofs.YtakllkkmofdpaaaGreatDoor
