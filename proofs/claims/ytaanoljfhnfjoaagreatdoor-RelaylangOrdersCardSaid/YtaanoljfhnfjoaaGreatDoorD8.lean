/- The rules that an expression needs. -/
import Derived.Test.YtaanoljfhnfjoaaGreatDoorD7
import Derived.Test.YtaanoljfhnfjoaaGreatDoorAP
namespace Go.Proofs.YtaanoljfhnfjoaaGreatDoor
open Go.ChangeShapes Go.WideShapes Go.ChangeAt Go.RowKit
set_option linter.unusedVariables false
set_option linter.unusedSimpArgs false
attribute [local go_sem ↓] execOp_call_val
attribute [local go_sem] callVal_func setCell_drewN alloc_drewN sEq_walk


theorem info_int : (Tryz.prog.info? 3).map (fun i => (i.zero, i.size, i.bytes)) = some (some (.int .i64 0), 1, 8) := by kernel_rfl
def natJ (l : List Nat) : List Int := l.map fun (v : Nat) => (v : Int)
theorem natJ_any (l : List Nat) (i : Nat) : ((natJ l).any fun x => decide ((i : Int) = x)) = l.any fun x => decide (i = x) := by
  unfold natJ
  rw [List.any_map]
  have : ((fun x => decide ((i : Int) = x)) ∘ fun (v : Nat) => (v : Int)) = fun x => decide (i = x) := by
    funext x
    show decide ((i : Int) = (x : Int)) = decide (i = x)
    rw [decide_eq_decide]
    omega
  rw [this]
theorem natJ_app (l : List Nat) (i : Nat) : ints (natJ (l ++ [i])) = ints (natJ l) ++ [.int .i64 (i : Int)] := by unfold natJ ints; rw [List.map_append, List.map_append]; rfl
theorem natJ_len (l : List Nat) : (natJ l).length = l.length := by unfold natJ; rw [List.length_map]
/-- every place of an expression begins one -/
def WfE (l : List Nd) : Prop := ∀ a, a < l.length → ∃ e, Sub l a e
theorem ndP_none {p : List Rl} {l : List Nd} {a : Nat} (h : l.length ≤ a) : ∀ f, ndP p l f a = []
  | 0 => rfl
  | f + 1 => by unfold ndP; rw [List.getElem?_eq_none h]
theorem ndP_delay {p : List Rl} {l : List Nd} {a f : Nat} {x : Nd} (h : l[a]? = some x) (h6 : x.op = 6) : ndP p l (f + 1) a = ndP p l f (endR l a).toNat := by
  show (match l[a]? with | none => [] | some x => if x.op = 6 then ndP p l f (endR l a).toNat else (if x.op = 0 ∧ 0 ≤ ruleR p x.name then [(ruleR p x.name).toNat] else []) ++ ndP p l f (a + 1)) = _
  rw [h]; simp only; rw [if_pos h6]
theorem ndP_flag {p : List Rl} {l : List Nd} {a f : Nat} {x : Nd} (h : l[a]? = some x) (h6 : ¬ x.op = 6) (h0 : x.op = 0) {i : Nat} (hi : ruleR p x.name = (i : Int)) : ndP p l (f + 1) a = i :: ndP p l f (a + 1) := by
  show (match l[a]? with | none => [] | some x => if x.op = 6 then ndP p l f (endR l a).toNat else (if x.op = 0 ∧ 0 ≤ ruleR p x.name then [(ruleR p x.name).toNat] else []) ++ ndP p l f (a + 1)) = _
  rw [h]; simp only; rw [if_neg h6, if_pos ⟨h0, by omega⟩, hi]; rfl
theorem ndP_more {p : List Rl} {l : List Nd} {a f : Nat} {x : Nd} (h : l[a]? = some x) (h6 : ¬ x.op = 6) (h0 : ¬ (x.op = 0 ∧ 0 ≤ ruleR p x.name)) : ndP p l (f + 1) a = ndP p l f (a + 1) := by
  show (match l[a]? with | none => [] | some x => if x.op = 6 then ndP p l f (endR l a).toNat else (if x.op = 0 ∧ 0 ≤ ruleR p x.name then [(ruleR p x.name).toNat] else []) ++ ndP p l f (a + 1)) = _
  rw [h]; simp only; rw [if_neg h6, if_neg h0]; rfl
/-- a row of rule numbers, handed back -/
def RowP (base : Nat) (l : List Nat) (w : World) (e : Ending) (w' : World) : Prop := Below w.heap.size w w' ∧ ∃ v, e = .returned v ∧ w'.ownsRow base 3 1 v l.length (ints (natJ l))

set_option maxRecDepth 100000 in
set_option maxHeartbeats 4000000 in
theorem needs_any (A : Option Addr) (n c : Nat) (hs : List Rh) (B : Option Addr) (m d : Nat) (l : List Nd) (w : World) (hR : RdRh w w.heap.size A n hs) (hn : n ≤ 9223372036854775807)
    (hL : RdNd w w.heap.size B m l) (hm : m ≤ 1000000) (hwf : WfE l) :
    Calls Tryz.prog 44 #[.slice A n c, .slice B m d] w (RowP w.heap.size (needsR (rls hs) l) w) := by
  obtain ⟨i0, hi0, hz0, hz1, hz2⟩ := info_parts info_int
  have HI0 := Lib.hid hi0
  have HI1 := Lib.hid hz0
  have HI2 := Lib.hid hz1
  have HI3 := Lib.hid hz2
  have HP : Hid (∀ e w', RowP w.heap.size (needsR (rls hs) l) w e w' = (Below w.heap.size w w' ∧ ∃ v, e = .returned v ∧ w'.ownsRow w.heap.size 3 1 v (needsR (rls hs) l).length (ints (natJ (needsR (rls hs) l))))) := Lib.hid fun _ _ => rfl
  have HLEN := Lib.hid hL.1
  have HR := Lib.hid hR
  have HL := Lib.hid hL
  have HW := Lib.hid hwf
  have HN : Hid (needsR (rls hs) l = [] ++ ndP (rls hs) l l.length 0) := Lib.hid rfl
  clear hi0 hz0 hz1 hz2 hR hL hwf
  go_enter Tryz.func44, Tryz.ntmps44
  go_wp2_with fail
  go_loopw [5, 6] (fun v at_ wr => ∃ (f k : Nat) (out : List Nat), k ≤ m ∧ at_ = .int .i64 k ∧ out.length ≤ k ∧ l.length ≤ f + k ∧ Below w.heap.size w wr ∧ wr.ownsRow w.heap.size 3 1 v out.length (ints (natJ out)) ∧ needsR (rls hs) l = out ++ ndP (rls hs) l f k) (fun _ at_ _ => m - (intOf at_).toNat)
  case atStart => exact ⟨l.length, 0, [], by omega, rfl, by simp, by omega, Below.refl _ _, own_none _ _ _ _, HN.out⟩
  case round =>
    obtain ⟨f, k, out, hk, rfl, ho, hf, hb, hown, hnd⟩ := hrel
    have HF := Lib.hid hf
    have HB := Lib.hid hb
    have HO := Lib.hid hown
    have HG := Lib.hid hnd
    clear hf hb hown hnd
    by_cases hlt : k < m
    · obtain ⟨x, hx⟩ : ∃ x, l[k]? = some x := ⟨_, List.getElem?_eq_getElem (by have := HLEN.out; omega)⟩
      obtain ⟨f, rfl⟩ : ∃ g, f = g + 1 := ⟨f - 1, by have := HF.out; have := HLEN.out; omega⟩
      have hrd := HL.out.up HB.out
      obtain ⟨b, off, rfl, hblt⟩ := hrd.form (by omega)
      obtain ⟨c0, c1, c2⟩ := hrd.at_ hx
      have HLW := Lib.hid hrd
      have HX := Lib.hid hx
      clear hx hrd
      by_cases h6 : x.op = 6
      · obtain ⟨e, he⟩ := HW.out k (by have := HLEN.out; omega)
        have HE : Hid (needsR (rls hs) l = out ++ ndP (rls hs) l f e) := Lib.hid (by rw [HG.out, ndP_delay HX.out h6, he.2.2]; rfl)
        have hek : k < e := he.2.1
        have hem : e ≤ m := by have := he.1; have := HLEN.out; omega
        have HEE := Lib.hid he.2.2
        rw [h6] at c0
        clear he h6 HG
        go_wp2_with fail
        refine (end_any _ m d l k wr HLW.out hm (by omega)).mono ?_
        rw [HEE.out]
        rintro e' w1 ⟨rfl, rfl⟩
        go_wp2_with fail
        go_roundw
        case rel => exact ⟨f, e, out, hem, rfl, by omega, by have := HF.out; omega, HB.out, HO.out, HE.out⟩
        case measure => simp [intOf]; omega
      · by_cases h0 : x.op = 0
        · rw [h0] at c0
          have H6 := Lib.hid h6
          have H0 := Lib.hid h0
          clear h6 h0
          go_wp2_with fail
          refine (rule_any A n c hs x.name wr (HR.out.up HB.out) hn).mono ?_
          rintro e' w1 ⟨rfl, k1⟩
          have HB1 := Lib.hid (HB.out.trans (k1.mono HB.out.size))
          have HO1 := Lib.hid (own_keep HO.out k1)
          have hbase := HB1.out.size
          clear k1
          rcases ruleR_bd (rls hs) x.name with ⟨hm1, _⟩ | ⟨i, y, hi, _⟩
          · have HE : Hid (needsR (rls hs) l = out ++ ndP (rls hs) l f (k + 1)) := Lib.hid (by rw [HG.out, ndP_more HX.out H6.out (by rw [hm1]; omega)])
            rw [hm1]
            clear hm1 HG
            go_wp2_with fail
            go_roundw
            case rel => exact ⟨f, k + 1, out, hlt, by go_num, by omega, by have := HF.out; omega, HB1.out, HO1.out, HE.out⟩
            case measure => simp [intOf]; omega
          · have HE : Hid (needsR (rls hs) l = (out ++ [i]) ++ ndP (rls hs) l f (k + 1)) := Lib.hid (by rw [HG.out, ndP_flag HX.out H6.out H0.out hi, List.append_assoc]; rfl)
            rw [hi]
            clear hi HG
            go_wp2_with (at_builtin; refine wpList_app1 rfl (.tmp 33) (.tmp 35) _ rfl w.heap.size 3 i0 _ 1 8 Tryz.underlying33 HI0.out HI1.out HI2.out HI3.out rfl (by omega) u5 out.length (ints (natJ out)) rfl HO1.out rfl rfl ?k1 ?k2 ?k3 hbase ?_)
            case k1 => simp [Value.oneCell']
            case k2 => simp only [maxLen]; omega
            case k3 => omega
            intro v' w6 hown6 hb6 hg6
            have HO6 : Hid (w6.ownsRow w.heap.size 3 1 v' (out ++ [i]).length (ints (natJ (out ++ [i])))) := Lib.hid (by rw [List.length_append, List.length_singleton, natJ_app]; simpa using hown6)
            have HB6 := Lib.hid (HB1.out.trans hb6)
            clear hown6 hb6 hg6
            go_wp2_with fail
            go_roundw
            case rel => exact ⟨f, k + 1, out ++ [i], hlt, by go_num, by rw [List.length_append, List.length_singleton]; omega, by have := HF.out; omega, HB6.out, HO6.out, HE.out⟩
            case measure => simp [intOf]; omega
        · have HE : Hid (needsR (rls hs) l = out ++ ndP (rls hs) l f (k + 1)) := Lib.hid (by rw [HG.out, ndP_more HX.out h6 (fun h => h0 h.1)])
          clear HG
          go_wp2_with fail
          go_roundw
          case rel => exact ⟨f, k + 1, out, hlt, by go_num, by omega, by have := HF.out; omega, HB.out, HO.out, HE.out⟩
          case measure => simp [intOf]; omega
    · have HE : Hid (needsR (rls hs) l = out) := Lib.hid (by rw [HG.out, ndP_none (by have := HLEN.out; omega), List.append_nil])
      go_wp2_with fail
      go_ret
      rw [HP.out]
      exact ⟨HB.out, _, rfl, by rw [HE.out]; exact HO.out⟩
end Go.Proofs.YtaanoljfhnfjoaaGreatDoor
