/- The order of the rules. -/
import Derived.Test.YtaanoljfhnfjoaaGreatDoorD8
import Derived.Deep.LoopGhost
namespace Go.Proofs.YtaanoljfhnfjoaaGreatDoor
open Go.ChangeShapes Go.WideShapes Go.ChangeAt Go.RowKit
set_option linter.unusedVariables false
set_option linter.unusedSimpArgs false
attribute [local go_sem ↓] execOp_call_val
attribute [local go_sem] callVal_func setCell_drewN alloc_drewN sEq_walk


theorem own_mono {w : World} {base base' e size n : Nat} {v : Value} {xs : List Value} (h : w.ownsRow base e size v n xs) (hb : base' ≤ base) : w.ownsRow base' e size v n xs :=
  ⟨h.1, h.2.imp id fun ⟨g, cap, cur, h1, h2, h3⟩ => ⟨g, cap, cur, h1, Nat.le_trans hb h2, h3⟩⟩
theorem order1_any (z : Int) (A : Option Addr) (n c : Nat) (zs : List Int) (g : Nat) (w : World) (hg : w.cell? ⟨g, 0, none⟩ = some (.slice A n c)) (hR : RdI w w.heap.size A n zs) (hn : n ≤ 9223372036854775807) :
    Calls Tryz.prog 45 (#[.int .i64 z] ++ #[.pointer (some ⟨g, 0, none⟩)]) w fun e w' => e = .returned (.bool (!(zs.any fun x => decide (z = x)))) ∧ w = w' := by
  have hlt := World.block_lt_of_cell? w ⟨g, 0, none⟩ hg
  show Calls Tryz.prog 45 #[.int .i64 z, .pointer (some ⟨g, 0, none⟩)] w _
  go_enter Tryz.func45, Tryz.ntmps45
  go_wp2_with fail
  refine (contains_int A n c zs z w hR hn).mono ?_
  rintro e w1 ⟨rfl, rfl⟩
  go_wp2_with fail
  go_ret
  exact ⟨rfl, rfl⟩
theorem enter_order1 (args : Array Value) (w : World) : (callFunc 45 args).run Tryz.prog w = .ok (.enter 45 args) w :=
  callFunc_enter Tryz.func45 (by kernel_rfl) rfl args w
/-- the rows that an order is read from -/
def OrdP (o : Option (List Nat)) (w : World) (e : Ending) (w' : World) : Prop :=
  Below w.heap.size w w' ∧ ((o = none ∧ e = .returned (.tuple #[.slice none 0 0, .bool false])) ∨ ∃ l v, o = some l ∧ e = .returned (.tuple #[v, .bool true]) ∧ w'.ownsRow w.heap.size 3 1 v l.length (ints (natJ l)))
theorem ready_no {p : List Rl} {out : List Nat} {i : Nat} {r : Rl} (hp : p[i]? = some r) (h : (out.any fun x => decide (i = x)) = true) : readyB p out i = false := by unfold readyB; rw [hp]; simp only; rw [h]; rfl
theorem ready_of {p : List Rl} {out : List Nat} {i : Nat} {r : Rl} (hp : p[i]? = some r) (h : (out.any fun x => decide (i = x)) = false) : readyB p out i = !((needsR p r.expr).any fun k => !(out.any fun x => decide (k = x))) := by unfold readyB; rw [hp]; simp only; rw [h]; rfl
theorem natJ_lack (l out : List Nat) : ((natJ l).any fun z => !((natJ out).any fun x => decide (z = x))) = l.any fun k => !(out.any fun x => decide (k = x)) := by
  have : ((fun z => !((natJ out).any fun x => decide (z = x))) ∘ fun (v : Nat) => (v : Int)) = fun k => !(out.any fun x => decide (k = x)) := by
    funext k
    show (!((natJ out).any fun x => decide ((k : Int) = x))) = _
    rw [natJ_any]
  conv => lhs; unfold natJ
  rw [List.any_map, ← this]
  rfl

set_option maxRecDepth 100000 in
set_option maxHeartbeats 4000000 in
theorem order_any (A : Option Addr) (n c : Nat) (hs : List Rh) (w : World) (hR : RdRh w w.heap.size A n hs) (hn : n ≤ 16) (hx : ∀ z ∈ hs, z.r.expr.length ≤ 64 ∧ WfE z.r.expr) :
    Calls Tryz.prog 25 #[.slice A n c] w (OrdP (orderR (rls hs)) w) := by
  have HP : Hid (∀ e w', OrdP (orderR (rls hs)) w e w' = (Below w.heap.size w w' ∧ ((orderR (rls hs) = none ∧ e = .returned (.tuple #[.slice none 0 0, .bool false])) ∨ ∃ l v, orderR (rls hs) = some l ∧ e = .returned (.tuple #[v, .bool true]) ∧ w'.ownsRow w.heap.size 3 1 v l.length (ints (natJ l))))) := Lib.hid fun _ _ => rfl
  obtain ⟨i0, hi0, hz0, hz1, hz2⟩ := info_parts info_int
  have HI0 := Lib.hid hi0
  have HI1 := Lib.hid hz0
  have HI2 := Lib.hid hz1
  have HI3 := Lib.hid hz2
  have HLEN := Lib.hid hR.len
  have HR := Lib.hid hR
  have HX := Lib.hid hx
  have HPL : Hid ((rls hs).length = n) := Lib.hid (by unfold rls; rw [List.length_map]; exact hR.len)
  have HO0 : Hid (orderR (rls hs) = ordGo (rls hs) n []) := Lib.hid (by unfold orderR; rw [HPL.out])
  have HB0 : Hid (Below w.heap.size w (w.alloc (.cells #[.slice none 0 0] 33))) := Lib.hid ((Below.refl _ _).alloc (Nat.le_refl _) _)
  have HQ0 : Hid (Blk (w.alloc (.cells #[.slice none 0 0] 33)) w.heap.size 33 #[.slice none 0 0]) := Lib.hid (Blk.new _ _ _)
  clear hi0 hz0 hz1 hz2 hR hx
  go_enter Tryz.func25, Tryz.ntmps25
  go_wp2_with fail
  go_loopg [5] n (fun f v5 wr => ∃ (v : Value) (out : List Nat), f + out.length = n ∧ Below w.heap.size w wr ∧ Blk wr w.heap.size 33 #[v] ∧ wr.ownsRow (w.heap.size + 1) 3 1 v out.length (ints (natJ out)) ∧ orderR (rls hs) = ordGo (rls hs) f out)
  case atStart => exact ⟨_, [], by simp, HB0.out, HQ0.out, own_none _ _ _ _, HO0.out⟩
  case round =>
    obtain ⟨v, out, hf, hb, hq, hown, hg⟩ := hrel
    have HF := Lib.hid hf
    have HB := Lib.hid hb
    have HQ := Lib.hid hq
    have HO := Lib.hid hown
    have HG := Lib.hid hg
    obtain ⟨oA, oc, rfl, hord, hoc, hocm, _⟩ := own_rd hown
    have HORD := Lib.hid (show RdI wr wr.heap.size oA out.length (natJ out) from hord)
    have hbase := hb.size
    clear hf hb hq hown hg hord
    have HGF := HF
    by_cases hlt : out.length < n
    · obtain ⟨f, rfl⟩ : ∃ g, gk = g + 1 := ⟨gk - 1, by have := HF.out; omega⟩
      have q0 := HQ.out.cell 0
      have qlt := HQ.out.lt
      have HPK : Hid (pickR (rls hs) out = pickGo (rls hs) out n 0) := Lib.hid (by unfold pickR; rw [HPL.out])
      obtain ⟨wo, hwo⟩ : ∃ wo, wo = wr := ⟨_, rfl⟩
      subst hwo
      go_wp2_with fail
      go_loopw [5, 16] (fun nx i wr => ∃ k : Nat, k ≤ n ∧ i = .int .i64 k ∧ nx = .int .i64 (-1) ∧ Below wo.heap.size wo wr ∧ pickR (rls hs) out = pickGo (rls hs) out (n - k) k) (fun _ i _ => n - (intOf i).toNat)
      case atStart => exact ⟨0, by omega, rfl, rfl, Below.refl _ _, HPK.out⟩
      case round =>
        obtain ⟨k, hk, rfl, rfl, hb, hpk⟩ := hrel
        have HB1 := Lib.hid hb
        have HPK1 := Lib.hid hpk
        have hs1 := hb.size
        clear hb hpk q0
        have q0 := (HQ.out.below HB1.out qlt).cell 0
        have qlt1 := (HQ.out.below HB1.out qlt).lt
        by_cases hkl : k < n
        · obtain ⟨z, hz⟩ : ∃ z, hs[k]? = some z := ⟨_, List.getElem?_eq_getElem (by have := HLEN.out; omega)⟩
          have hrd := (HR.out.up HB.out).up HB1.out
          obtain ⟨b, off, rfl, hblt⟩ := hrd.form (by omega)
          obtain ⟨c0, c1⟩ := hrd.at_ hz
          have HZ := Lib.hid (HX.out z (List.mem_of_getElem? hz))
          have HPZ : Hid ((rls hs)[k]? = some z.r) := Lib.hid (by unfold rls; rw [List.getElem?_map, hz]; rfl)
          have hZR := hrd.zs z (List.mem_of_getElem? hz)
          have HZR := Lib.hid hZR
          have hW : Below wr.heap.size wr (wr.alloc (.cells #[.string z.r.name, .slice z.A z.n z.c] 39)) := (Below.refl _ _).alloc (Nat.le_refl _) _
          have HW := Lib.hid hW
          have HWO := Lib.hid (HB1.out.trans (hW.mono HB1.out.size))
          have HRW := Lib.hid (hrd.up hW)
          have HPN : Hid (pickGo (rls hs) out (n - k) k = if readyB (rls hs) out k then some k else pickGo (rls hs) out (n - (k + 1)) (k + 1)) := Lib.hid (by rw [show n - k = (n - (k + 1)) + 1 from by omega]; rfl)
          clear hz hrd hZR hW
          go_wp2_with fail
          refine (contains_int oA out.length oc (natJ out) k _ (HORD.out.up HWO.out) (by omega)).mono ?_
          rw [natJ_any]
          cases hany : out.any fun x => decide (k = x) with
          | true =>
            have HE : Hid (pickR (rls hs) out = pickGo (rls hs) out (n - (k + 1)) (k + 1)) := Lib.hid (by rw [HPK1.out, HPN.out, ready_no HPZ.out hany]; rfl)
            clear hany
            rintro e w1 ⟨rfl, rfl⟩
            go_wp2_with fail
            go_roundw
            case rel => exact ⟨k + 1, hkl, by go_num, rfl, HWO.out, HE.out⟩
            case measure => simp [intOf]; omega
          | false =>
            have HRY := Lib.hid (ready_of HPZ.out hany)
            clear hany
            rintro e w1 ⟨rfl, rfl⟩
            go_wp2_with fail
            have hzl : z.n = z.r.expr.length := HZR.out.1.1.symm
            have hz64 := HZ.out.1
            refine (needs_any (some ⟨b, off, none⟩) n c hs z.A z.n z.c z.r.expr _ HRW.out (by omega) ((HZR.out.1.below HW.out (Nat.le_refl _)).more HW.out.size) (by omega) HZ.out.2).mono ?_
            rintro e w2 ⟨k2, v2, rfl, hown2⟩
            obtain ⟨rA, rc, rfl, hrr, hrc, hrcm, _⟩ := own_rd hown2
            have hB2 := HWO.out.trans (k2.mono HWO.out.size)
            have HB2 := Lib.hid hB2
            have hq2 := (HQ.out.below hB2 qlt)
            have HQ2 := Lib.hid hq2
            have HRR := Lib.hid (show RdI w2 w2.heap.size rA (needsR (rls hs) z.r.expr).length (natJ (needsR (rls hs) z.r.expr)) from hrr)
            have HO2 := Lib.hid (HORD.out.up hB2)
            clear k2 hown2 hrr hB2 q0 c0 c1 hzl
            have q2 := hq2.cell 0
            have ql2 := hq2.lt
            have hn2 : (needsR (rls hs) z.r.expr).length ≤ 9223372036854775807 := by simp only [maxLen] at hrcm; omega
            have HN2 := Lib.hid hn2
            clear hq2 hn2 hrc hrcm
            generalize (needsR (rls hs) z.r.expr).length = nl at *
            go_wp2_with fail
            refine (containsFuncI 45 #[.pointer (some ⟨w.heap.size, 0, none⟩)] rA nl rc (natJ (needsR (rls hs) z.r.expr)) (fun z => !((natJ out).any fun x => decide (z = x))) (fun w' => w' = w2) enter_order1 (fun w' hw' => by rw [hw']; exact HRR.out)
              (fun y w' hw' => by rw [hw']; exact (order1_any y oA out.length oc (natJ out) w.heap.size w2 (HQ2.out.cell 0) HO2.out (by omega)).mono fun e w'' hh => ⟨hh.1, hh.2.symm⟩) HN2.out w2 rfl).mono ?_
            rw [natJ_lack]
            have HRY2 := HRY.out
            cases hlk : (needsR (rls hs) z.r.expr).any fun k => !(out.any fun x => decide (k = x)) with
            | true =>
              rw [hlk] at HRY2
              have HE : Hid (pickR (rls hs) out = pickGo (rls hs) out (n - (k + 1)) (k + 1)) := Lib.hid (by rw [HPK1.out, HPN.out, HRY2]; rfl)
              clear hlk HRY2
              rintro e w3 ⟨rfl, rfl⟩
              go_wp2_with fail
              go_roundw
              case rel => exact ⟨k + 1, hkl, by go_num, rfl, HB2.out, HE.out⟩
              case measure => simp [intOf]; omega
            | false =>
              rw [hlk] at HRY2
              have HE : Hid (orderR (rls hs) = ordGo (rls hs) f (out ++ [k])) := Lib.hid (by
                rw [HG.out]
                show (match pickR (rls hs) out with | none => none | some i => ordGo (rls hs) f (out ++ [i])) = _
                rw [HPK1.out, HPN.out, HRY2]; rfl)
              clear hlk HRY2
              have HOW := Lib.hid (own_keep HO.out HB2.out)
              rintro e w3 ⟨rfl, rfl⟩
              have hbase2 : w.heap.size + 1 ≤ w3.heap.size := by have := HB2.out.size; omega
              go_wp2_with (at_builtin; refine wpList_app1 rfl (.tmp 39) (.tmp 41) _ rfl (w.heap.size + 1) 3 i0 _ 1 8 Tryz.underlying33 HI0.out HI1.out HI2.out HI3.out rfl (by omega) (.slice oA out.length oc) out.length (ints (natJ out)) rfl HOW.out rfl rfl ?k1 ?k2 ?k3 hbase2 ?_)
              case k1 => simp [Value.oneCell']
              case k2 => simp only [maxLen]; omega
              case k3 => omega
              intro v' w6 hown6 hb6 hg6
              obtain ⟨A6, d6, rfl, _, _, _, _⟩ := own_rd hown6
              have hq6 := HQ2.out.below hb6 (Nat.lt_succ_self _)
              have HQ6 : Hid (Blk (w6.setCell ⟨w.heap.size, 0, none⟩ (.slice A6 (out.length + 1) d6)) w.heap.size 33 #[.slice A6 (out.length + 1) d6]) := Lib.hid (hq6.set_at (i := 0) (.slice A6 (out.length + 1) d6) (by simp))
              have HO6 : Hid ((w6.setCell ⟨w.heap.size, 0, none⟩ (.slice A6 (out.length + 1) d6)).ownsRow (w.heap.size + 1) 3 1 (.slice A6 (out.length + 1) d6) (out ++ [k]).length (ints (natJ (out ++ [k])))) := Lib.hid (by
                rw [List.length_append, List.length_singleton, natJ_app]
                refine hown6.kept (row := some w.heap.size) (only_set 0 (.slice A6 (out.length + 1) d6) (World.grownBy.refl w6 _)) ?_
                rcases Option.eq_none_or_eq_some (Value.slice A6 (out.length + 1) d6).ownBlock with hc | ⟨gg, hc⟩
                · exact .inl hc
                · right
                  intro e
                  have := (hown6.lt gg hc).1
                  rw [hc] at e
                  injection e with e
                  omega)
              have HB6 : Hid (Below w.heap.size w (w6.setCell ⟨w.heap.size, 0, none⟩ (.slice A6 (out.length + 1) d6))) := Lib.hid (((HB.out.trans (HB2.out.mono HB.out.size)).trans (hb6.mono (Nat.le_succ _))).setCell (Nat.le_refl _) _)
              have c6 := hq6.cell 0
              have l6 := hq6.lt
              have f6 := hq6.frozen 0
              clear hown6 hb6 hg6 hq6
              go_wp2_with fail
              go_roundg f
              case rel => exact ⟨.slice A6 (out.length + 1) d6, out ++ [k], by rw [List.length_append, List.length_singleton]; have := HF.out; omega, HB6.out, HQ6.out, HO6.out, HE.out⟩
              case measure => omega
        · have HE : Hid (orderR (rls hs) = none) := Lib.hid (by
            rw [HG.out]
            show (match pickR (rls hs) out with | none => none | some i => ordGo (rls hs) f (out ++ [i])) = _
            rw [HPK1.out, show n - k = 0 from by omega]; rfl)
          have HBB := Lib.hid (HB.out.trans (HB1.out.mono HB.out.size))
          go_wp2_with fail
          go_ret2
          rw [HP.out]
          exact ⟨HBB.out, .inl ⟨HE.out, rfl⟩⟩
    · have HE : Hid (orderR (rls hs) = some out) := Lib.hid (by rw [HG.out, show gk = 0 from by have := HF.out; omega]; rfl)
      have HOW := Lib.hid (own_mono HO.out (Nat.le_succ _))
      have q0 := HQ.out.cell 0
      have qlt := HQ.out.lt
      go_wp2_with fail
      go_ret2
      rw [HP.out]
      exact ⟨HB.out, .inr ⟨out, _, HE.out, rfl, HOW.out⟩⟩
end Go.Proofs.YtaanoljfhnfjoaaGreatDoor
