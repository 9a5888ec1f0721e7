/- slices.DeleteFunc over strings; relaylang.Inputs. -/
import Derived.Test.YtaanoljfhnfjoaaGreatDoorDD
import Derived.Test.YtaanoljfhnfjoaaGreatDoorRE6
import Derived.Lib.SliceRun
import Derived.Laws.IdiomCopy
namespace Go.Proofs.YtaanoljfhnfjoaaGreatDoor
open Go.ChangeShapes Go.WideShapes Go.ChangeAt Go.RowKit
set_option linter.unusedVariables false
set_option linter.unusedSimpArgs false
attribute [local go_sem ↓] execOp_call_val
attribute [local go_sem] callVal_func setCell_drewN alloc_drewN sEq_walk

set_option maxHeartbeats 1000000 in
theorem indexFuncS (F : FuncId) (cap : Array Value) (A : Option Addr) (n c : Nat) (zs : List ByteArray) (p : ByteArray → Bool) (I : World → Prop)
    (hF : ∀ (args : Array Value) (w : World), (callFunc F args).run Tryz.prog w = .ok (.enter F args) w)
    (hI : ∀ w', I w' → RdStr w' w'.heap.size A n zs)
    (hf : ∀ (z : ByteArray) (w' : World), I w' → Calls Tryz.prog F (#[.string z] ++ cap) w' fun e w'' => e = .returned (.bool (p z)) ∧ I w'')
    (hn : n ≤ 9223372036854775807) (w : World) (hw : I w) :
    Calls Tryz.prog 53 #[.slice A n c, .func (.func F) #[] cap] w fun e w' => e = .returned (.int .i64 (idxGo p zs 0)) ∧ I w' := by
  have HF := Lib.hid hf
  have HII := Lib.hid hI
  have HI := Lib.hid hw
  have hlen := Lib.hid (hI w hw).1
  clear hf hw hI
  go_enter Tryz.func53, Tryz.ntmps53
  go_wp2_with fail
  go_loopw [5, 8] (fun _ i wr => ∃ k : Nat, k ≤ n ∧ i = .int .i64 k ∧ I wr ∧ idxGo p zs 0 = idxGo p (zs.drop k) k) (fun _ i _ => n - (intOf i).toNat)
  case atStart => exact ⟨0, by omega, rfl, HI.out, rfl⟩
  case round =>
    obtain ⟨k, hk, rfl, hIw, hidx⟩ := hrel
    have hrd := HII.out wr hIw
    have HIW := Lib.hid hIw
    have HIDX := Lib.hid hidx
    clear hIw hidx
    by_cases hlt : k < n
    · obtain ⟨z, hz⟩ : ∃ z, zs[k]? = some z := ⟨_, List.getElem?_eq_getElem (by have := hlen.out; omega)⟩
      obtain ⟨b, off, rfl, hblt⟩ := hrd.form (by omega)
      have hcell := hrd.at_ hz
      have HZ := Lib.hid (drop_cons hz)
      clear hz
      go_wp2_with fail
      refine (HF.out z wr HIW.out).mono ?_
      cases hp : p z with
      | true =>
        rintro e w1 ⟨rfl, hI1⟩
        have HI1 := Lib.hid hI1
        have HP := Lib.hid hp
        clear hI1 hp
        go_wp2_with fail
        go_ret
        exact ⟨ret_int (by rw [HIDX.out, HZ.out]; simp [idxGo, HP.out]), HI1.out⟩
      | false =>
        rintro e w1 ⟨rfl, hI1⟩
        have HI1 := Lib.hid hI1
        have HP := Lib.hid hp
        clear hI1 hp
        go_wp2_with fail
        go_roundw
        case rel => exact ⟨k + 1, by omega, by go_num, HI1.out, by rw [HIDX.out, HZ.out]; simp [idxGo, HP.out]⟩
        case measure => simp [intOf]; omega
    · have hd : zs.drop k = [] := by rw [List.drop_eq_nil_iff]; have := hlen.out; omega
      have HD := Lib.hid hd
      clear hd hrd
      go_wp2_with fail
      go_ret
      exact ⟨ret_int (by rw [HIDX.out, HD.out]; rfl), HIW.out⟩
theorem only_setCells {a : World} (g : Nat) : ∀ (vs : List Value) (o : Nat) (w : World), a.grownBy w (some g) → a.grownBy (w.setCells g o vs) (some g)
  | [], _, _, h => h
  | v :: r, o, w, h => only_setCells g r (o + 1) _ (only_set o v h)
theorem idx_first (p : ByteArray → Bool) (zs : List ByteArray) : (idxGo p zs 0 = -1 ∧ zs.filter (fun x => !p x) = zs) ∨ (∃ i : Nat, idxGo p zs 0 = (i : Int) ∧ i < zs.length ∧ (zs.take (i + 1)).filter (fun x => !p x) = zs.take i) := by
  rcases idxGo_spec p zs 0 with ⟨h1, h2⟩ | ⟨i, x, h1, h2, h3, h4⟩
  · exact .inl ⟨h1, List.filter_eq_self.2 fun x hx => by rw [h2 x hx]; rfl⟩
  · refine .inr ⟨i, by rw [h1, Nat.zero_add], (List.getElem?_eq_some_iff.1 h2).1, ?_⟩
    rw [List.take_add_one, h2, List.filter_append]
    simp only [Option.toList, List.filter_cons, h3, Bool.not_true, Bool.false_eq_true, if_false, List.filter_nil, List.append_nil]
    refine List.filter_eq_self.2 fun y hy => ?_
    obtain ⟨j, hj⟩ := List.mem_iff_getElem?.1 hy
    have hl := (List.getElem?_eq_some_iff.1 hj).1
    rw [List.length_take] at hl
    rw [List.getElem?_take_of_lt (by omega)] at hj
    rw [h4 j y (by omega) hj]; rfl
/-- the row while it is filtered -/
structure Flt (w : World) (g : Nat) (zs : List ByteArray) (p : ByteArray → Bool) (i j : Nat) : Prop where
  len : i = ((zs.take j).filter fun x => !p x).length
  lt : i < j
  le : j ≤ zs.length
  got : ∀ k x, ((zs.take j).filter fun x => !p x)[k]? = some x → w.cell? ⟨g, k, none⟩ = some (.string x)
  rest : ∀ k x, j ≤ k → zs[k]? = some x → w.cell? ⟨g, k, none⟩ = some (.string x)
  all : ∀ k, k < zs.length → (w.cell? ⟨g, k, none⟩).isSome = true
  frz : ∀ k, w.frozen? ⟨g, k, none⟩ = false
theorem Flt.store {w : World} {g : Nat} {zs : List ByteArray} {p : ByteArray → Bool} {i j : Nat} {x : ByteArray} (h : Flt w g zs p i j) (hj : zs[j]? = some x) (hp : p x = false) : Flt (w.setCell ⟨g, i, none⟩ (.string x)) g zs p (i + 1) (j + 1) := by
  have hjl := (List.getElem?_eq_some_iff.1 hj).1
  have hlt := h.lt
  have ht : (zs.take (j + 1)).filter (fun x => !p x) = (zs.take j).filter (fun x => !p x) ++ [x] := by
    rw [List.take_add_one, hj, List.filter_append]
    simp [hp]
  have hne : ∀ k, k ≠ i → (w.setCell ⟨g, i, none⟩ (.string x)).cell? ⟨g, k, none⟩ = w.cell? ⟨g, k, none⟩ := fun k hk => World.cell?_setCell_other _ _ _ _ (by intro e; injection e with e1 e2; omega)
  have hsame : (w.setCell ⟨g, i, none⟩ (.string x)).cell? ⟨g, i, none⟩ = some (.string x) := World.cell?_setCell_same' _ _ _ (h.all i (by omega))
  refine ⟨by rw [ht, List.length_append, ← h.len]; rfl, by omega, by omega, fun k y hy => ?_, fun k y hk hy => ?_, fun k hk => ?_, fun k => ?_⟩
  · rw [ht] at hy
    rcases Nat.lt_or_ge k i with hk | hk
    · rw [hne k (by omega)]
      rw [List.getElem?_append_left (by rw [← h.len]; exact hk)] at hy
      exact h.got k y hy
    · rw [List.getElem?_append_right (by rw [← h.len]; exact hk), ← h.len] at hy
      have hk2 : k - i = 0 := by
        have := (List.getElem?_eq_some_iff.1 hy).1
        simp at this; omega
      rw [hk2] at hy
      simp at hy
      subst hy
      rw [show k = i by omega]
      exact hsame
  · rw [hne k (by omega)]
    exact h.rest k y (by omega) hy
  · by_cases hk2 : k = i
    · rw [hk2, hsame]; rfl
    · rw [hne k hk2]; exact h.all k hk
  · have := World.frozen?_setCells g [.string x] i w ⟨g, k, none⟩
    rw [show (w.setCells g i [.string x]) = w.setCell ⟨g, i, none⟩ (.string x) from rfl] at this
    rw [this]; exact h.frz k
theorem wpList_clear {P : Program} {ops : Array Oper} {rest : List Oper} {o : Oper} {a : Act} {Q : Exit → Act → World → Prop} {w w' : World} (hgd : o.guard = none) (s : Operand) (t : TypeId)
    (ho : o.op = .call { callee := .builtin .clear, args := #[s], argTypes := #[t] }) (sv v : Value) (hs : a.eval s = sv)
    (hrun : ∀ ty, (Builtin.clear_ #[t] ty #[sv]).run P w = .ok v w') (h : wpList P ops Q rest (a.put o.dst v) w') : wpList P ops Q (o :: rest) a w := by
  refine wpList_plain hgd fun K hK => ?_
  unfold Oper.wp execOp
  simp only [ho, resolve, invoke, builtin, Sem.run_bind, Sem.run_pure, Result.andThen_ok, List.map_toArray, List.map_cons, List.map_nil, hs, hrun]
  exact hK _ _ h
def DelE (g c : Nat) (zs : List ByteArray) (p : ByteArray → Bool) (w : World) (e : Ending) (w' : World) : Prop :=
  e = .returned (.slice (some ⟨g, 0, none⟩) (zs.filter fun x => !p x).length c) ∧ w.grownBy w' (some g) ∧ RdStr w' w'.heap.size (some ⟨g, 0, none⟩) (zs.filter fun x => !p x).length (zs.filter fun x => !p x)
set_option maxRecDepth 100000 in
set_option maxHeartbeats 4000000 in
theorem delete_any (F : FuncId) (cap : Array Value) (g n c : Nat) (zs : List ByteArray) (p : ByteArray → Bool) (cur : Array Value) (w : World)
    (hF : ∀ (args : Array Value) (w : World), (callFunc F args).run Tryz.prog w = .ok (.enter F args) w)
    (hB : Blk w g 9 cur) (hcs : cur.size = c) (hz : cur.toList.take n = strsV zs) (hl : zs.length = n) (hnc : n ≤ c) (hc : c ≤ maxLen)
    (hf : ∀ (z : ByteArray) (w' : World), w.grownBy w' (some g) → Calls Tryz.prog F (#[.string z] ++ cap) w' fun e w'' => e = .returned (.bool (p z)) ∧ Below w'.heap.size w' w'') :
    Calls Tryz.prog 32 #[.slice (some ⟨g, 0, none⟩) n c, .func (.func F) #[] cap] w (DelE g c zs p w) := by
  have HP : Hid (∀ e w', DelE g c zs p w e w' = (e = .returned (.slice (some ⟨g, 0, none⟩) (zs.filter fun x => !p x).length c) ∧ w.grownBy w' (some g) ∧ RdStr w' w'.heap.size (some ⟨g, 0, none⟩) (zs.filter fun x => !p x).length (zs.filter fun x => !p x))) := Lib.hid fun _ _ => rfl
  have HF := Lib.hid hf
  have HB := Lib.hid hB
  have HCS := Lib.hid hcs
  have HZZ := Lib.hid hz
  have HLL := Lib.hid hl
  have hcI : c ≤ 9223372036854775807 := by simp only [maxLen] at hc; omega
  have HCELL : Hid (∀ w', Below w.heap.size w w' → ∀ k x, zs[k]? = some x → w'.cell? ⟨g, k, none⟩ = some (.string x)) := Lib.hid fun w' hb k x hx => by
    have hk := (List.getElem?_eq_some_iff.1 hx).1
    rw [(hB.below hb hB.lt).cell k]
    have h1 : (strsV zs)[k]? = some (.string x) := by unfold strsV; rw [List.getElem?_map, hx]; rfl
    rw [← hz, List.getElem?_take_of_lt (by omega)] at h1
    simpa using h1
  have hRd : ∀ w', Below w.heap.size w w' → RdStr w' w'.heap.size (some ⟨g, 0, none⟩) n zs := fun w' hb => ⟨hl, by unfold strsV; rw [List.length_map, hl, Nat.mul_one], fun _ => ⟨g, 0, rfl, (hB.below hb hB.lt).lt, fun j u hu => by
    unfold strsV at hu
    rw [List.getElem?_map] at hu
    cases hx : zs[j]? with
    | none => rw [hx] at hu; cases hu
    | some x => rw [hx] at hu; injection hu with hu; subst hu; rw [Nat.zero_add]; exact HCELL.out w' hb j x hx⟩⟩
  have HIX := indexFuncS F cap (some ⟨g, 0, none⟩) n c zs p (fun w' => Below w.heap.size w w') hF hRd (fun z w' hb => (hf z w' (only_of_below hb _)).mono fun e w'' ⟨h1, h2⟩ => ⟨h1, hb.trans (h2.mono hb.size)⟩) (by omega) w (Below.refl _ _)
  have HRD := Lib.hid hRd
  have HIXX := Lib.hid HIX
  have HFST := Lib.hid (idx_first p zs)
  clear hf hB hcs hz hl hc hRd HIX
  go_enter Tryz.func32, Tryz.ntmps32
  go_wp2_with fail
  refine HIXX.out.mono ?_
  rintro e w1 ⟨rfl, hb1⟩
  have HB1 := Lib.hid hb1
  clear hb1
  generalize hix : idxGo p zs 0 = ix at *
  have HIXE := Lib.hid hix
  clear hix
  rcases HFST.out with ⟨h1, h2⟩ | ⟨i0, h1, h2, h3⟩
  · subst h1
    have H2 := Lib.hid h2
    clear h2
    go_wp2_with fail
    go_ret
    rw [HP.out, H2.out, HLL.out]
    exact ⟨rfl, only_of_below HB1.out _, HRD.out w1 HB1.out⟩
  · subst h1
    have hi0n : i0 < n := by have := HLL.out; omega
    have hfl : Flt w1 g zs p i0 (i0 + 1) := ⟨by rw [h3, List.length_take]; omega, by omega, by omega, fun k x hx => by
        rw [h3] at hx
        have hk := (List.getElem?_eq_some_iff.1 hx).1
        rw [List.length_take] at hk
        rw [List.getElem?_take_of_lt (by omega)] at hx
        exact HCELL.out w1 HB1.out k x hx, fun k x _ hx => HCELL.out w1 HB1.out k x hx, fun k hk => by
        rw [HCELL.out w1 HB1.out k _ (List.getElem?_eq_getElem hk)]; rfl, fun k => (HB.out.below HB1.out HB.out.lt).frozen k⟩
    have HFL := Lib.hid hfl
    have HGL : Hid (g < w.heap.size) := Lib.hid HB.out.lt
    have hne1 : ((i0 : Int) == -1) = false := by rw [beq_eq_false_iff_ne]; omega
    clear h2 h3 hfl HFST HIXE
    go_wp2_with fail
    go_loopw [5, 6] (fun iv jv wr => ∃ i j : Nat, iv = .int .i64 i ∧ jv = .int .i64 j ∧ w.grownBy wr (some g) ∧ Flt wr g zs p i j) (fun _ jv _ => n - (intOf jv).toNat)
    case atStart => exact ⟨i0, i0 + 1, rfl, by go_num, only_of_below HB1.out _, HFL.out⟩
    case round =>
      obtain ⟨i, j, rfl, rfl, hg, hfl⟩ := hrel
      have HG := Lib.hid hg
      have HFL := Lib.hid hfl
      have hij := hfl.lt
      have hjn := hfl.le
      rw [HLL.out] at hjn
      clear hg hfl
      by_cases hlt : j < n
      · obtain ⟨x, hx⟩ : ∃ x, zs[j]? = some x := ⟨_, List.getElem?_eq_getElem (by have := HLL.out; omega)⟩
        have c0 := HFL.out.rest j x (Nat.le_refl _) hx
        have gl : g < wr.heap.size := Nat.lt_of_lt_of_le HGL.out HG.out.size
        have hltI : (j : Int) < (n : Int) := by omega
        have HX := Lib.hid hx
        clear hx
        go_wp2_with fail
        refine (HF.out x wr HG.out).mono ?_
        rintro e w2 ⟨rfl, hb2⟩
        have HG2 := Lib.hid (only_trans HG.out (only_of_below hb2 (some g)))
        have HFL2 : Hid (Flt w2 g zs p i j) := Lib.hid ⟨HFL.out.len, HFL.out.lt, HFL.out.le, fun k x hx => (hb2.cell (p := ⟨g, k, none⟩) gl).trans (HFL.out.got k x hx), fun k x h hx => (hb2.cell (p := ⟨g, k, none⟩) gl).trans (HFL.out.rest k x h hx), fun k hk => by rw [hb2.cell (p := ⟨g, k, none⟩) gl]; exact HFL.out.all k hk, fun k => by
          have := hb2.block g gl
          have hf := HFL.out.frz k
          simp only [World.frozen?] at hf ⊢
          rw [this]; exact hf⟩
        have gl2 : g < w2.heap.size := Nat.lt_of_lt_of_le gl hb2.size
        clear hb2 c0 gl
        have HTK : Hid ((zs.take (j + 1)).filter (fun x => !p x) = (zs.take j).filter (fun x => !p x) ++ (if p x then [] else [x])) := Lib.hid (by
          rw [List.take_add_one, HX.out, List.filter_append]
          cases hpx : p x <;> simp [hpx])
        cases hp : p x with
        | true =>
          have HFL3 : Hid (Flt w2 g zs p i (j + 1)) := Lib.hid (by
            have ht := HTK.out
            rw [hp, if_pos rfl, List.append_nil] at ht
            exact ⟨by rw [ht]; exact HFL2.out.len, by omega, by have := HLL.out; omega, by rw [ht]; exact HFL2.out.got, fun k x h hx => HFL2.out.rest k x (by omega) hx, HFL2.out.all, HFL2.out.frz⟩)
          clear hp
          go_wp2_with fail
          go_roundw
          case rel => exact ⟨i, j + 1, rfl, by go_num, HG2.out, HFL3.out⟩
          case measure => simp [intOf]; omega
        | false =>
          have HFL3 := Lib.hid (HFL2.out.store HX.out hp)
          have HG3 := Lib.hid (only_set (p := g) i (.string x) HG2.out)
          obtain ⟨u0, hu0⟩ := Option.isSome_iff_exists.1 (HFL2.out.all i (by have := HLL.out; omega))
          have hfz := HFL2.out.frz
          have hin : i < n := by omega
          have hinI : (i : Int) < (n : Int) := by omega
          clear hp
          go_wp2_with fail
          go_roundw
          case rel => exact ⟨i + 1, j + 1, by go_num, by go_num, HG3.out, HFL3.out⟩
          case measure => simp [intOf]; omega
      · have hje : j = n := by omega
        have hli := HFL.out.len
        have htk : zs.take j = zs := List.take_of_length_le (by have := HLL.out; omega)
        rw [htk] at hli
        have hil : i < n := by omega
        have hci : ¬ c = i := by omega
        have hz9 := Tryz.zeroValue9
        have hrun : ∀ ty, (Builtin.clear_ #[42] ty #[.slice (some ⟨g, i, none⟩) (n - i) (c - i)]).run Tryz.prog wr = .ok (.tuple #[]) (wr.setCells g i (List.replicate (n - i) (.string ⟨#[]⟩))) := fun ty => Lib.run_clear_slice wr 42 9 ty (.string ⟨#[]⟩) Tryz.underlying42 hz9 rfl rfl g i (n - i) (c - i) (by omega) (fun q hq => HFL.out.all (i + q) (by have := HLL.out; omega)) (fun q hq => HFL.out.frz (i + q))
        have hin : i ≤ n := by omega
        have hinI : (i : Int) ≤ (n : Int) := by omega
        have hjI : ¬ (j : Int) < (n : Int) := by omega
        have HRES : Hid (DelE g c zs p w (.returned (.slice (some ⟨g, 0, none⟩) i c)) (wr.setCells g i (List.replicate (n - i) (.string ⟨#[]⟩)))) := Lib.hid (by
          rw [HP.out, ← hli]
          have hgl : g < wr.heap.size := Nat.lt_of_lt_of_le HGL.out HG.out.size
          have hgg := only_setCells g (List.replicate (n - i) (.string ⟨#[]⟩)) i wr HG.out
          refine ⟨rfl, hgg, hli.symm, by unfold strsV; rw [List.length_map, hli, Nat.mul_one], fun _ => ⟨g, 0, rfl, Nat.lt_of_lt_of_le HGL.out hgg.size, fun q u hu => ?_⟩⟩
          unfold strsV at hu
          rw [List.getElem?_map] at hu
          cases hx : (zs.filter fun x => !p x)[q]? with
          | none => rw [hx] at hu; cases hu
          | some x =>
            rw [hx] at hu
            injection hu with hu
            subst hu
            have hq := (List.getElem?_eq_some_iff.1 hx).1
            rw [Nat.zero_add, World.cell?_setCells_out g _ i wr ⟨g, q, none⟩ (fun _ _ => .inl (by show q < i; omega))]
            exact HFL.out.got q x (by rw [htk]; exact hx))
        clear htk hli hz9 hje
        go_upto_region 11 with fail
        go_wp2_with (at_builtin; refine wpList_clear rfl _ 42 rfl (.slice (some ⟨g, i, none⟩) (n - i) (c - i)) _ ?hs1 hrun ?_)
        go_ret
        exact HRES.out
set_option maxHeartbeats 1000000 in
theorem index_nil (f : Value) (w : World) :
    Calls Tryz.prog 53 #[.slice none 0 0, f] w fun e w' => e = .returned (.int .i64 (-1)) ∧ w' = w := by
  go_enter Tryz.func53, Tryz.ntmps53
  go_wp2_with fail
  go_loopw [5, 8] (fun _ i wr => i = .int .i64 0 ∧ wr = w) (fun _ _ _ => 0)
  case atStart => exact ⟨rfl, rfl⟩
  case round =>
    obtain ⟨rfl, rfl⟩ := hrel
    go_wp2_with fail
    go_ret
    exact ⟨rfl, rfl⟩
set_option maxHeartbeats 1000000 in
theorem delete_nil (f : Value) (w : World) :
    Calls Tryz.prog 32 #[.slice none 0 0, f] w fun e w' => e = .returned (.slice none 0 0) ∧ w' = w := by
  go_enter Tryz.func32, Tryz.ntmps32
  go_wp2_with fail
  refine (index_nil f w).mono ?_
  rintro e w1 ⟨rfl, rfl⟩
  go_wp2_with fail
  go_ret
  exact ⟨rfl, rfl⟩
theorem rdStr_nil0 (w : World) (B : Nat) (A : Option Addr) : RdStr w B A 0 [] := ⟨rfl, rfl, fun h => by omega⟩
theorem enter_inputs1 (args : Array Value) (w : World) : (callFunc 33 args).run Tryz.prog w = .ok (.enter 33 args) w :=
  callFunc_enter Tryz.func33 (by kernel_rfl) rfl args w
theorem inputs1_any (A : Option Addr) (n c : Nat) (hs : List Rh) (s : ByteArray) (q : Nat) (w : World) (hq : w.cell? ⟨q, 0, none⟩ = some (.slice A n c)) (hR : RdRh w w.heap.size A n hs) (hn : n ≤ 9223372036854775807) :
    Calls Tryz.prog 33 (#[.string s] ++ #[.pointer (some ⟨q, 0, none⟩)]) w fun e w' => e = .returned (.bool (decide (0 ≤ ruleR (rls hs) s))) ∧ Below w.heap.size w w' := by
  have hlt := World.block_lt_of_cell? w ⟨q, 0, none⟩ hq
  have HR := Lib.hid hR
  clear hR
  show Calls Tryz.prog 33 #[.string s, .pointer (some ⟨q, 0, none⟩)] w _
  go_enter Tryz.func33, Tryz.ntmps33
  go_wp2_with fail
  refine (rule_any A n c hs s w HR.out hn).mono ?_
  rintro e w1 ⟨rfl, hb⟩
  have HB := Lib.hid hb
  clear hb
  go_wp2_with fail
  go_ret
  exact ⟨by simp, HB.out⟩
/-- what Inputs answers -/
def InpE (p : List Rl) (w : World) (e : Ending) (w' : World) : Prop :=
  Below w.heap.size w w' ∧ ((ckR p ≠ 0 ∧ e = .returned (.tuple #[.slice none 0 0, .slice none 0 0, .int .i64 (ckR p)])) ∨ (ckR p = 0 ∧ ∃ A c B d, e = .returned (.tuple #[.slice A (inF p).length c, .slice B (inV p).length d, .int .i64 0]) ∧ RdStr w' w'.heap.size A (inF p).length (inF p) ∧ RdStr w' w'.heap.size B (inV p).length (inV p) ∧ c ≤ maxLen ∧ (inF p).length ≤ c ∧ (inV p).length ≤ d ∧ d ≤ maxLen))
set_option maxRecDepth 100000 in
set_option maxHeartbeats 4000000 in
theorem inputs_any (A : Option Addr) (n c : Nat) (hs : List Rh) (w : World) (hR : RdRh w w.heap.size A n hs) (hn : n ≤ c) (hc : c ≤ maxLen) (hf : ∀ z ∈ hs, z.r.Fit) :
    Calls Tryz.prog 14 #[.slice A n c] w (InpE (rls hs) w) := by
  have HP : Hid (∀ e w', InpE (rls hs) w e w' = (Below w.heap.size w w' ∧ ((ckR (rls hs) ≠ 0 ∧ e = .returned (.tuple #[.slice none 0 0, .slice none 0 0, .int .i64 (ckR (rls hs))])) ∨ (ckR (rls hs) = 0 ∧ ∃ A c B d, e = .returned (.tuple #[.slice A (inF (rls hs)).length c, .slice B (inV (rls hs)).length d, .int .i64 0]) ∧ RdStr w' w'.heap.size A (inF (rls hs)).length (inF (rls hs)) ∧ RdStr w' w'.heap.size B (inV (rls hs)).length (inV (rls hs)) ∧ c ≤ maxLen ∧ (inF (rls hs)).length ≤ c ∧ (inV (rls hs)).length ≤ d ∧ d ≤ maxLen)))) := Lib.hid fun _ _ => rfl
  have HF := Lib.hid hf
  have HHC := Lib.hid hc
  have HPL : Hid ((rls hs).length = n) := Lib.hid (by unfold rls; rw [List.length_map]; exact hR.len)
  have HR := Lib.hid hR
  clear hf hc hR
  go_enter Tryz.func14, Tryz.ntmps14
  go_wp2_with fail
  have hb0 : Below w.heap.size w (w.alloc (.cells #[.slice A n c] 22)) := (Below.refl _ _).alloc (Nat.le_refl _) _
  have hq0 : Blk (w.alloc (.cells #[.slice A n c] 22)) w.heap.size 22 #[.slice A n c] := Blk.new _ _ _
  obtain ⟨q, hq⟩ : ∃ q, q = w.heap.size := ⟨_, rfl⟩
  rw [← hq] at hq0 ⊢
  generalize (w.alloc (.cells #[.slice A n c] 22)) = w0 at *
  have HB0 := Lib.hid hb0
  have HQ0 := Lib.hid hq0
  have HQ := Lib.hid hq
  have HR0 := Lib.hid (HR.out.up hb0)
  clear hb0 hq0 hq
  refine (rcheck_any A n c hs w0 HR0.out hn HHC.out HF.out).mono ?_
  rintro e w1 ⟨rfl, k1⟩
  have hq1 := HQ0.out.below k1 HQ0.out.lt
  have c0 := hq1.cell 0
  have cl := hq1.lt
  have HQ1 := Lib.hid hq1
  have HB1 := Lib.hid (HB0.out.trans (k1.mono HB0.out.size))
  have HR1 := Lib.hid (HR0.out.up k1)
  clear k1 hq1
  generalize hck : ckR (rls hs) = ck at *
  by_cases h0 : ck = 0
  rotate_left
  · have h0b : (ck != 0) = true := by simpa using h0
    have H0 := Lib.hid h0
    clear hck h0
    go_wp2_with fail
    go_ret3
    rw [HP.out]
    exact ⟨HB1.out, .inl ⟨H0.out, rfl⟩⟩
  subst h0
  have HPO := Lib.hid (ckR_ok hck)
  clear hck
  have hn16 : n ≤ 16 := by have := HPO.out.len; have := HPL.out; omega
  go_wp2_with fail
  refine (names_any A n c hs w1 HR1.out hn16 (fun z hz => by
      obtain ⟨i, hi⟩ := List.mem_iff_getElem?.1 hz
      exact (HPO.out.rule i z.r (by unfold rls; rw [List.getElem?_map, hi]; rfl)).len)).mono ?_
  rintro e w2 ⟨vF, vV, rfl, ht⟩
  have HT := Lib.hid ht
  have HB2 := Lib.hid (HB1.out.trans (ht.low.mono HB1.out.size))
  have hq2 := HQ1.out.below ht.low HQ1.out.lt
  have HQ2 := Lib.hid hq2
  have HR2 := Lib.hid (HR1.out.up ht.low)
  clear ht c0 cl hq2
  obtain ⟨VA, vc, rfl, hvr, hvc, hvm, _⟩ := own_rd HT.out.v
  have hvI : vc ≤ 9223372036854775807 := by simp only [maxLen] at hvm; omega
  have HVC := Lib.hid (And.intro hvc hvm)
  have HVR := Lib.hid (show RdStr w2 w2.heap.size VA (inV (rls hs)).length (inV (rls hs)) from ⟨rfl, hvr⟩)
  rcases HT.out.f.2 with ⟨h1, h2⟩ | ⟨g, fc, cur, h1, h2, h3, h4, h5, h6, h7⟩
  · subst h1
    have HNF : Hid (inF (rls hs) = []) := Lib.hid (by unfold inF; rw [List.eq_nil_of_length_eq_zero h2]; rfl)
    clear hvr hvc hvm h2
    go_wp2_with fail
    refine (delete_nil _ w2).mono ?_
    rintro e w3 ⟨rfl, rfl⟩
    go_wp2_with fail
    go_ret3
    rw [HP.out]
    exact ⟨HB2.out, .inr ⟨by first | exact rfl | trivial, none, 0, VA, vc, by rw [HNF.out]; rfl, by rw [HNF.out]; exact rdStr_nil0 _ _ _, HVR.out, by simp [maxLen], by rw [HNF.out]; exact Nat.le_refl _, HVC.out.1, HVC.out.2⟩⟩
  · subst h1
    have HD := delete_any 33 #[.pointer (some ⟨q, 0, none⟩)] g _ fc (cmpS (srtS (namesF (rls hs)))) (fun s => decide (0 ≤ ruleR (rls hs) s)) cur w2 enter_inputs1 h3 (by rw [h6, Nat.mul_one]) (by rw [Nat.mul_one] at h7; exact h7) rfl h4 h5 (fun z w' hg => by
      have hb := below_only HT.out.low hg h2 (Nat.le_refl _)
      exact inputs1_any A n c hs z q w' ((hb.cell (p := ⟨q, 0, none⟩) HQ1.out.lt).trans (HQ1.out.cell 0)) (HR1.out.up hb) (by omega))
    have HDD := Lib.hid HD
    have HFC : Hid ((cmpS (srtS (namesF (rls hs)))).length ≤ fc ∧ fc ≤ maxLen) := Lib.hid ⟨h4, h5⟩
    have HG2 := Lib.hid h2
    clear hvr hvc hvm h3 h4 h5 h6 h7 HD
    go_wp2_with fail
    refine HDD.out.mono ?_
    rintro e w3 ⟨rfl, hg, hrd⟩
    have e1 : (List.filter (fun x => !(fun s => decide (0 ≤ ruleR (rls hs) s)) x) (cmpS (srtS (namesF (rls hs))))) = inF (rls hs) := rfl
    rw [e1] at hrd ⊢
    have HRD := Lib.hid hrd
    have HB3 := Lib.hid (below_only HB2.out hg (Nat.le_trans HB1.out.size HG2.out) (Nat.le_refl _))
    have hvo := own_apart HT.out.v (show w2.grownBy w3 (Value.slice (some ⟨g, 0, none⟩) (cmpS (srtS (namesF (rls hs)))).length fc).ownBlock from hg) HT.out.apart
    have HVR3 : Hid (RdStr w3 w3.heap.size VA (inV (rls hs)).length (inV (rls hs))) := Lib.hid (by
      obtain ⟨A', c', e, h, _⟩ := own_rd hvo
      injection e with e2 e3 e4
      subst e2
      exact ⟨rfl, h⟩)
    have hfl : (inF (rls hs)).length ≤ fc := Nat.le_trans (List.length_filter_le _ _) HFC.out.1
    have HFL := Lib.hid hfl
    clear e1 hrd hg hvo hfl
    generalize hgn : (inF (rls hs)).length = kf at *
    go_wp2_with fail
    go_ret3
    rw [HP.out]
    subst hgn
    exact ⟨HB3.out, .inr ⟨by first | exact rfl | trivial, some ⟨g, 0, none⟩, fc, VA, vc, rfl, HRD.out, HVR3.out, HFC.out.2, HFL.out, HVC.out.1, HVC.out.2⟩⟩
end Go.Proofs.YtaanoljfhnfjoaaGreatDoor
