/- Automatic reclosing: Shots. -/
import Derived.Test.YtkmhemcnpbhdfaaRc2b
namespace Go.Proofs.Ytkmhemcnpbhdfaa
open Go.ChangeShapes Go.WideShapes Go.ChangeAt Go.RowKit
set_option linter.unusedVariables false
attribute [local go_sem ↓] execOp_call_val
attribute [local go_sem] callVal_func setCell_drewN alloc_drewN

def Rc.nextT (x : Rc) (dead : List Int) : Int := x.since + dead.getD x.att 0
def Rc.fires (x : Rc) (dead : List Int) (before : Int) : Bool := decide (x.state = 1 ∧ x.nextT dead < before)

/-- what the closure of Shots keeps: the device, its pointer's box b1, the result's box b2 -/
structure Sh (w : World) (base p b1 b2 : Nat) (x : Rc) (A : Option Addr) (n c : Nat) (dead out : List Int) (v : Value) : Prop where
  dev : Dev w p x A n c dead
  q1 : Blk w b1 62 #[.pointer (some ⟨p, 0, none⟩)]
  q2 : Blk w b2 39 #[v]
  own : w.ownsRow base 3 1 v out.length (ints out)
  pb : p < b1
  bb : b1 < b2
  b2b : b2 < base
  bs : base ≤ w.heap.size

theorem Sh.below {w w' : World} {base p b1 b2 : Nat} {x : Rc} {A : Option Addr} {n c : Nat} {dead out : List Int} {v : Value} (h : Sh w base p b1 b2 x A n c dead out v) (hb : Below w.heap.size w w') : Sh w' base p b1 b2 x A n c dead out v :=
  ⟨h.dev.below hb, h.q1.below hb h.q1.lt, h.q2.below hb h.q2.lt, h.own.kept (row := none) ⟨hb.os, hb.tape, hb.output, hb.size, fun k hk _ => hb.block k hk⟩ (by cases v.ownBlock <;> simp), h.pb, h.bb, h.b2b, Nat.le_trans h.bs hb.size⟩
theorem below_dev {w w' : World} {B p : Nat} (hp : B ≤ p) (hB : B ≤ w.heap.size) (hg : w.grownBy w' (some p)) : Below B w w' := below_only (Below.refl _ _) hg hp hB

theorem att_none (base p b1 b2 : Nat) (x : Rc) (A : Option Addr) (n c : Nat) (dead out : List Int) (v : Value) (before : Int) (w : World) (h : Sh w base p b1 b2 x A n c dead out v) (hf : x.fires dead before = false) :
    Calls Try.prog 47 #[.int .i64 before, .pointer (some ⟨b1, 0, none⟩), .pointer (some ⟨b2, 0, none⟩)] w fun e w' => e = .returned (.tuple #[]) ∧ ∃ nq, w' = w.drewN nq := by
  have c1 : w.cell? ⟨b1, 0, none⟩ = some (.pointer (some ⟨p, 0, none⟩)) := h.q1.cell 0
  have HH := Lib.hid h
  clear h
  by_cases hs : x.state = 1
  · have hge : ¬ x.since + dead.getD x.att 0 < before := by simp [Rc.fires, Rc.nextT, hs] at hf; simpa using hf
    have HS := Lib.hid hs
    clear hs hf
    go_enter Try.func47, Try.ntmps47
    go_wp2_with fail
    refine (rnext_some p x A n c dead _ HH.out.dev HS.out).mono ?_
    rintro e w1 ⟨rfl, nq, rfl⟩
    generalize x.since + dead.getD x.att 0 = T at *
    go_wp2_with fail
    go_end0
    exact ⟨rfl, _, rfl⟩
  · have HS := Lib.hid hs
    clear hs hf
    go_enter Try.func47, Try.ntmps47
    go_wp2_with fail
    refine (rnext_none p x A n c dead _ HH.out.dev HS.out).mono ?_
    rintro e w1 ⟨rfl, nq, rfl⟩
    go_wp2_with fail
    go_end0
    exact ⟨rfl, _, rfl⟩

theorem next_bd {x : Rc} {dead : List Int} (ok : x.Ok dead) (hs : x.state = 1) : x.now ≤ x.now ∧ x.since + 1 ≤ x.nextT dead ∧ x.nextT dead ≤ x.since + 600000 := by
  have hw := ok.wt hs
  have hd := ok.ds (dead.getD x.att 0) (by rw [List.getD_eq_getElem?_getD, List.getElem?_eq_getElem hw]; exact List.getElem_mem hw)
  unfold Rc.nextT
  omega

set_option maxHeartbeats 2000000 in
theorem att_some (B0 base p b1 b2 : Nat) (x : Rc) (A : Option Addr) (n c : Nat) (dead out : List Int) (v : Value) (before : Int) (w : World) (h : Sh w base p b1 b2 x A n c dead out v) (hB : B0 ≤ p) (hf : x.fires dead before = true)
    (hnow : x.now ≤ x.nextT dead) (hb4 : before ≤ 1000000001) (hol : out.length ≤ 65536) :
    Calls Try.prog 47 #[.int .i64 before, .pointer (some ⟨b1, 0, none⟩), .pointer (some ⟨b2, 0, none⟩)] w fun e w' => e = .returned (.tuple #[]) ∧ ∃ v', Sh w' base p b1 b2 (x.tick dead (x.nextT dead)) A n c dead (out ++ [x.nextT dead]) v' ∧ Below B0 w w' := by
  obtain ⟨i0, hi0, hz0, hz1, hz2⟩ := info_parts infoInt
  have hs : x.state = 1 := by simp [Rc.fires] at hf; exact hf.1
  have hlt : x.nextT dead < before := by simp [Rc.fires] at hf; exact hf.2
  have c1 : w.cell? ⟨b1, 0, none⟩ = some (.pointer (some ⟨p, 0, none⟩)) := h.q1.cell 0
  have HH := Lib.hid h
  have HS := Lib.hid hs
  have hnx : Hid (x.nextT dead = x.since + dead.getD x.att 0) := Lib.hid rfl
  clear h hs hf
  go_enter Try.func47, Try.ntmps47
  go_wp2_with fail
  refine (rnext_some p x A n c dead _ HH.out.dev HS.out).mono ?_
  rw [← hnx.out]
  rintro e w1 ⟨rfl, nq, rfl⟩
  generalize hT : x.nextT dead = T at *
  have HT := Lib.hid hT
  clear hT
  go_wp2_with fail
  refine (rtick_any p x A n c dead (w.drewN nq) ⟨HH.out.dev.blk, HH.out.dev.rd, HH.out.dev.ok⟩ T hnow (by omega)).mono ?_
  generalize tickAct (x.ticks dead T) = ta
  rintro e w2 ⟨rfl, hg2, hD2⟩
  have hps := HH.out.pb
  have hbb := HH.out.bb
  have hb2b := HH.out.b2b
  have hbs := HH.out.bs
  have q1 : Blk w2 b1 62 #[.pointer (some ⟨p, 0, none⟩)] := Blk.grown (w := w.drewN nq) HH.out.q1 hg2 (fun e => by injection e; omega)
  have q2 : Blk w2 b2 39 #[v] := Blk.grown (w := w.drewN nq) HH.out.q2 hg2 (fun e => by injection e; omega)
  have own2 : w2.ownsRow base 3 1 v out.length (ints out) := World.ownsRow.kept (w := w.drewN nq) HH.out.own hg2 (by
    cases hv : v.ownBlock with
    | none => exact .inl rfl
    | some k => exact .inr (fun e => by injection e with e; have := (HH.out.own.lt k hv).1; omega))
  obtain ⟨e1, e2, e3⟩ : w2.cell? ⟨b2, 0, none⟩ = some v ∧ w2.frozen? ⟨b2, 0, none⟩ = false ∧ b2 < w2.heap.size := ⟨q2.cell 0, q2.frozen 0, q2.lt⟩
  have hsz : w.heap.size ≤ w2.heap.size := hg2.size
  have HQ1 := Lib.hid q1
  have HQ2 := Lib.hid q2
  have HO2 := Lib.hid own2
  have HD2 := Lib.hid hD2
  have HG2 := Lib.hid hg2
  clear q1 q2 own2 hD2 hg2 hlt hnow
  go_wp2_with (at_builtin; refine wpList_append_own_at _ rfl (.tmp 20) (.tmp 22) _ rfl base 3 i0 _ 1 8 Try.underlying39 hi0 hz0 hz1 hz2 rfl (by omega) v out.length (ints out) rfl (HO2.out.alloc _) ⟨w2.heap.size, 0, none⟩ 1 1 [.int .i64 T] rfl rfl (cell_one_new _ _ _) ?k1 ?k2 ?k3 ?k4 ?_)
  case k2 => simp only [maxLen]; omega
  case k3 => omega
  case k1 => simp [Value.oneCell']
  case k4 => simp; omega
  intro v' w3 hown3 hgrow3 hnil3 hat3
  obtain ⟨g', cap', hv', _, _⟩ := World.ownsRow.form hown3 (by omega)
  subst hv'
  have hvb : ∀ k, v.ownBlock = some k → base ≤ k := fun k hk => (HO2.out.lt k hk).1
  have k3 : Below base w2 w3 := ((Below.refl _ _).alloc (Nat.le_trans hbs hsz) (.cells #[.int .i64 T] 3)).grown hgrow3 (by simp; omega) (fun k hk => hvb k hk)
  have q2 : Blk w3 b2 39 #[v] := HQ2.out.below k3 hb2b
  obtain ⟨f1, f2, f3⟩ : w3.cell? ⟨b2, 0, none⟩ = some v ∧ w3.frozen? ⟨b2, 0, none⟩ = false ∧ b2 < w3.heap.size := ⟨q2.cell 0, q2.frozen 0, q2.lt⟩
  have HQ2' := Lib.hid q2
  have HO3 := Lib.hid hown3
  have HK3 := Lib.hid k3
  have HAT := Lib.hid hat3
  clear q2 hown3 k3 hgrow3 hnil3 hat3 hvb e1 e2 e3
  go_wp2_with fail
  go_end0
  have hx : ints (out ++ [T]) = ints out ++ [.int .i64 T] := by simp [ints]
  rw [HT.out]
  refine ⟨rfl, .slice (some ⟨g', 0, none⟩) (out.length + 1) cap', ⟨⟨?_, ?_, HD2.out.ok⟩, ?_, ?_, ?_, hps, hbb, hb2b, ?_⟩, ?_⟩
  · exact (HD2.out.blk.below HK3.out (by omega)).far (by simp; omega) _
  · have h1 : RdI w3 p A n dead := Rd.below HD2.out.rd HK3.out (by omega)
    exact ⟨h1.1, fun hn => by
      obtain ⟨b, off, e, hlt, hc⟩ := h1.2 hn
      exact ⟨b, off, e, hlt, fun j u hu => (World.cell?_setCell_other _ _ _ _ (fun e => by injection e; omega)).trans (hc j u hu)⟩⟩
  · exact (HQ1.out.below HK3.out (by omega)).far (by simp; omega) _
  · exact HQ2'.out.set_ 0 _
  · rw [hx]
    have h2 := ownsRow_setCell_below HO3.out (a := ⟨b2, 0, none⟩) (by simpa using hb2b) (.slice (some ⟨g', 0, none⟩) (out.length + 1) cap')
    simpa using h2
  · have := HK3.out.size
    simp
    omega
  · have k1 : Below B0 (w.drewN nq) w2 := below_dev hB (by show B0 ≤ w.heap.size; omega) HG2.out
    have k2 : Below B0 w w2 := ⟨k1.os, k1.tape, k1.output, k1.size, k1.block⟩
    have k4 : Below B0 w w3 := k2.trans (HK3.out.mono (by omega))
    exact k4.setCell (by simp; omega) _
end Go.Proofs.Ytkmhemcnpbhdfaa
