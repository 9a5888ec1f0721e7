/- A step of a relay in memory; flags and measured values. -/
import Derived.Test.YtodnjjlhklbniaaDL
import Derived.Test.YtodnjjlhklbniaaDQ
namespace Go.Proofs.Ytodnjjlhklbniaa
open Go.ChangeShapes Go.WideShapes Go.ChangeAt Go.RowKit
set_option linter.unusedVariables false
set_option linter.unusedSimpArgs false
attribute [local go_sem ↓] execOp_call_val
attribute [local go_sem] callVal_func setCell_drewN alloc_drewN sEq_walk


def bools (zs : List Bool) : List Value := zs.map Value.bool
theorem bool_at {w : World} {g : Nat} {t : TypeId} {xs : List Bool} (h : Blk w g t (bools xs).toArray) {i : Nat} (hi : i < xs.length) : w.cell? ⟨g, i, none⟩ = some (.bool (xs.getD i false)) := by
  rw [h.cell, List.getElem?_toArray]
  unfold bools
  rw [List.getElem?_map, List.getD_eq_getElem?_getD, List.getElem?_eq_getElem hi]; rfl
theorem blk_bset {w : World} {g : Nat} {t : TypeId} {xs : List Bool} (h : Blk w g t (bools xs).toArray) (i : Nat) (b : Bool) : Blk (w.setCell ⟨g, i, none⟩ (.bool b)) g t (bools (xs.set i b)).toArray := by
  have h1 := h.set_ i (.bool b)
  rw [show (bools xs).toArray.setIfInBounds i (.bool b) = (bools (xs.set i b)).toArray from by unfold bools; rw [List.setIfInBounds_toArray, List.map_set]] at h1
  exact h1
/-- where the parts of a step lie -/
structure Ctx where
  s : Nat
  r : Nat
  m : Nat
  gv : Nat
  A : Option Addr
  n : Nat
  c : Nat
  hs : List Rh
  Ao : Option Addr
  no : Nat
  co : Nat
  Af : Option Addr
  nf : Nat
  cf : Nat
  Ai : Option Addr
  ni : Nat
  ci : Nat
  v : Rin
structure CtxOk (x : Ctx) : Prop where
  p : x.v.p = rls x.hs
  hn : x.n ≤ 16
  len : x.hs.length = x.n
  vl : x.v.vals.length = x.n
  nf : x.nf ≤ 9223372036854775807
  ni : x.ni ≤ 9223372036854775807
  ms : 1 ≤ x.v.ms ∧ x.v.ms ≤ 100000
  r : x.r < x.s
  gv : x.gv < x.s
  m : x.m < x.s
  ex : ∀ (i : Nat) (r : Rl), x.v.p[i]? = some r → r.expr.length ≤ 64 ∧ endR r.expr 0 = (r.expr.length : Int) ∧ ∀ y ∈ r.expr, nodeCk y = 0
structure EvW (x : Ctx) (w : World) (st : Rst) (lv : Value) : Prop where
  bS : Blk w x.s 63 #[.pointer (some ⟨x.r, 0, none⟩), .int .i64 x.v.ms, .slice x.Af x.nf x.cf, .slice x.Ai x.ni x.ci, lv]
  bR : Blk w x.r 57 #[.slice x.A x.n x.c, .slice x.Ao x.no x.co, .slice (some ⟨x.gv, 0, none⟩) x.n x.n, .map (some x.m)]
  rules : RdRh w x.s x.A x.n x.hs
  vals : Blk w x.gv 4 (bools x.v.vals).toArray
  flags : RdStr w x.s x.Af x.nf x.v.flags
  ins : RdIv w x.s x.Ai x.ni x.v.ins
  kept : KeptI w x.m st.kept
  ko : KOk st.kept
  later : Qp w (x.s + 1) lv st.later
section
variable {x : Ctx} {w w' : World} {st : Rst} {lv : Value}
theorem EvW.up (h : EvW x w st lv) (hb : Below w.heap.size w w') : EvW x w' st lv :=
  ⟨h.bS.below hb h.bS.lt, h.bR.below hb h.bR.lt, h.rules.below hb (Nat.le_of_lt h.bS.lt), h.vals.below hb h.vals.lt, h.flags.below hb (Nat.le_of_lt h.bS.lt), h.ins.below hb (Nat.le_of_lt h.bS.lt), h.kept.at_ (hb.block _ h.kept.lt), h.ko, h.later.up hb⟩
/-- what the map keeps has turned -/
theorem EvW.mapped (h : EvW x w st lv) (ok : CtxOk x) {k : Nat → Nat → Bool × Int} (hk : KeptI w' x.m k) (ho : KOk k) (hg : w.grownBy w' (some x.m)) : EvW x w' ⟨k, st.later⟩ lv := by
  obtain ⟨es, c, hm⟩ := h.kept.isMap
  have hf : Fr (fun i => i = x.m) w w' := Fr.grownB hg rfl
  have hX : ∀ B k, k < B → k = x.m → ∃ es c, w.heap[k]? = some (.map es c) := fun B k _ e => by subst e; exact ⟨es, c, hm⟩
  have hne : ∀ {g t : Nat} {cs : Array Value}, Blk w g t cs → ¬ g = x.m := fun {g t cs} hb e => by
    subst e
    have h2 : some (Obj.cells cs t (0, 0)) = some (Obj.map es c) := hb.symm.trans hm
    cases h2
  exact ⟨hf.blk h.bS (hne h.bS), hf.blk h.bR (hne h.bR), h.rules.fr hf (hX _), hf.blk h.vals (hne h.vals), h.flags.fr hf (hX _), h.ins.fr hf (hX _), hk, ho, h.later.at_ (fun k hk => hf.block k (h.later.lt hk).2 (fun e => by have := (h.later.lt hk).1; have := ok.m; have e2 : k = x.m := e; omega)) hf.size⟩
theorem CtxOk.op (ok : CtxOk x) : opOk x.v := fun r y hy => by
  unfold expr at hy
  cases hp : x.v.p[r]? with
  | none => rw [hp] at hy; simp at hy
  | some q => rw [hp] at hy; exact nodeCk_op ((ok.ex r q hp).2.2 y hy)
theorem CtxOk.exOk (ok : CtxOk x) : exOk x.v := fun q hq => by
  obtain ⟨i, hi⟩ := List.mem_iff_getElem?.1 hq
  exact ⟨(ok.ex i q hi).1, (ok.ex i q hi).2.1⟩
/-- the expression of a rule, and where it lies -/
theorem EvW.expr (h : EvW x w st lv) (ok : CtxOk x) {r a e : Nat} (hs : Sub (expr x.v r) a e) : ∃ z, x.hs[r]? = some z ∧ z.r.expr = expr x.v r ∧ r < x.n ∧ z.n = (expr x.v r).length ∧ z.n ≤ 64 ∧ RdNd w x.s z.A z.n (expr x.v r) := by
  have hr := hs.exp
  rw [ok.p] at hr
  have hr2 : r < x.hs.length := by unfold rls at hr; rw [List.length_map] at hr; exact hr
  have hz : x.hs[r]? = some (x.hs[r]'hr2) := List.getElem?_eq_getElem hr2
  have hp : x.v.p[r]? = some (x.hs[r]'hr2).r := by rw [ok.p]; unfold rls; rw [List.getElem?_map, hz]; rfl
  have he : (x.hs[r]'hr2).r.expr = Proofs.Ytodnjjlhklbniaa.expr x.v r := by unfold Proofs.Ytodnjjlhklbniaa.expr; rw [hp]
  have hrd := (h.rules.zs _ (List.mem_of_getElem? hz)).1
  have hl := (ok.ex r _ hp).1
  refine ⟨_, hz, he, by rw [← ok.len]; exact hr2, ?_, ?_, ?_⟩
  · rw [← he]; exact hrd.1.symm
  · rw [← hrd.1]; exact hl
  · rw [← he]; exact hrd
end
set_option maxHeartbeats 2000000 in
theorem flag_any (x : Ctx) (ok : CtxOk x) (st : Rst) (lv : Value) (nm : ByteArray) (w : World) (h : EvW x w st lv) :
    Calls Try.prog 26 #[.pointer (some ⟨x.s, 0, none⟩), .string nm] w fun e w' => e = .returned (.bool (flagB x.v nm)) ∧ Below w.heap.size w w' := by
  have K0 : Below w.heap.size w (w.alloc (.cells #[.string nm] 9)) := (Below.refl _ _).alloc (Nat.le_refl _) _
  have HK := Lib.hid K0
  have HE := Lib.hid (h.up K0)
  have HOK := Lib.hid ok
  have hc : (w.alloc (.cells #[.string nm] 9)).cell? ⟨w.heap.size, 0, none⟩ = some (.string nm) := (Blk.new w 9 #[.string nm]).cell 0
  have HC := Lib.hid hc
  have HX : Hid (ruleR x.v.p nm = idxGo (fun z => sEq z.r.name nm) x.hs 0) := Lib.hid (by rw [ok.p]; exact ruleR_idx x.hs nm)
  have s0 := h.bS.cell 0
  have r0 := h.bR.cell 0
  have sl := h.bS.lt
  have rl := h.bR.lt
  have hn := ok.hn
  clear K0 h hc ok
  go_enter Try.func26, Try.ntmps26
  go_wp2_with fail
  refine (indexFuncRh _ _ x.A x.n x.c x.hs (fun z => sEq z.r.name nm) (fun w' => Below (w.alloc (.cells #[.string nm] 9)).heap.size (w.alloc (.cells #[.string nm] 9)) w') enter_flag1
    (fun w' hb => ((HE.out.up hb).rules.more (Nat.le_of_lt (HE.out.up hb).bS.lt))) (fun y w' _ hb => (flag1_any y nm w.heap.size w' ((hb.cell (p := ⟨w.heap.size, 0, none⟩) (by simp)).trans HC.out)).mono fun e w'' ⟨he, hb2⟩ => ⟨he, hb.trans (hb2.mono hb.size)⟩) (by omega) _ (Below.refl _ _)).mono ?_
  rw [← HX.out]
  rintro e w1 ⟨rfl, hb⟩
  have HB := Lib.hid (HK.out.trans (hb.mono HK.out.size))
  have HE1 := Lib.hid (HE.out.up hb)
  have HC1 : Hid (w1.cell? ⟨w.heap.size, 0, none⟩ = some (.string nm)) := Lib.hid ((hb.cell (p := ⟨w.heap.size, 0, none⟩) (by simp)).trans HC.out)
  have hlt1 : w.heap.size < w1.heap.size := by have := hb.size; simp at this; omega
  clear hb s0 r0 sl rl HE HC HX
  have s0 := HE1.out.bS.cell 0
  have s2 := HE1.out.bS.cell 2
  have r2 := HE1.out.bR.cell 2
  have sl := HE1.out.bS.lt
  have rl := HE1.out.bR.lt
  rcases ruleR_bd x.v.p nm with ⟨hm1, _⟩ | ⟨i, y, hi, hy, _⟩
  · have HFL : Hid (flagB x.v nm = hasS x.v.flags nm) := Lib.hid (by unfold flagB; rw [if_neg (by rw [hm1]; omega)])
    rw [hm1]
    clear hm1
    have HFR := Lib.hid (HE1.out.flags.more (Nat.le_of_lt sl))
    have c1 := HC1.out
    have hnf := HOK.out.nf
    have HCA : Hid (∀ N, Calls Try.prog 32 #[.slice x.Af x.nf x.cf, .string nm] (w1.drewN N) fun e w' => e = .returned (.bool (hasS x.v.flags nm)) ∧ w' = w1.drewN N) := Lib.hid fun N => (contains_str x.Af x.nf x.cf x.v.flags nm (w1.drewN N) HFR.out hnf).mono fun e w' ⟨he, hw⟩ => ⟨he, hw.symm⟩
    clear hnf
    go_upto_region 4 with fail
    go_quiet ((go_at_call 32; exact (HCA.out _).mono (fun _ _ hh => ⟨hh.1, _, hh.2⟩)))
    have HB2 := Lib.hid (below_drewN HB.out nq)
    go_wp2_with fail
    go_ret
    exact ⟨ret_bool HFL.out.symm, HB2.out⟩
  · have hil : i < x.n := by rw [← HOK.out.vl]; have := (List.getElem?_eq_some_iff.1 hy).1; rw [HOK.out.p] at this; unfold rls at this; rw [List.length_map, HOK.out.len] at this; rw [HOK.out.vl]; exact this
    have HFL : Hid (flagB x.v nm = x.v.vals.getD i false) := Lib.hid (by unfold flagB; rw [if_pos (by omega), hi]; rfl)
    rw [hi]
    have c3 := bool_at HE1.out.vals (i := i) (by rw [HOK.out.vl]; exact hil)
    have gl := HE1.out.vals.lt
    clear hi hy
    go_wp2_with fail
    go_ret
    exact ⟨ret_bool HFL.out.symm, HB.out⟩
theorem inputI_cons (y : Iv) (r : List Iv) (s : ByteArray) : inputI (y :: r) s = if sEq y.name s then y.value else inputI r s := by
  show (if y.name = s then y.value else inputI r s) = _
  unfold sEq
  by_cases h : y.name = s <;> simp [h]
set_option maxHeartbeats 2000000 in
theorem input_any (x : Ctx) (ok : CtxOk x) (st : Rst) (lv : Value) (nm : ByteArray) (w : World) (h : EvW x w st lv) :
    Calls Try.prog 27 #[.pointer (some ⟨x.s, 0, none⟩), .string nm] w fun e w' => e = .returned (.int .i64 (inputI x.v.ins nm)) ∧ Below w.heap.size w w' := by
  have HI := Lib.hid (h.ins.more (Nat.le_of_lt h.bS.lt))
  have HLEN := Lib.hid h.ins.1
  have s3 := h.bS.cell 3
  have sl := h.bS.lt
  have hni := ok.ni
  clear h ok
  go_enter Try.func27, Try.ntmps27
  go_wp2_with fail
  go_loopw [12] (fun i wr => ∃ k : Nat, k ≤ x.ni ∧ i = .int .i64 k ∧ Below w.heap.size w wr ∧ inputI x.v.ins nm = inputI (x.v.ins.drop k) nm) (fun i _ => x.ni - (intOf i).toNat)
  case atStart => exact ⟨0, by omega, rfl, Below.refl _ _, rfl⟩
  case round =>
    obtain ⟨k, hk, rfl, hb, hg⟩ := hrel
    have HB := Lib.hid hb
    have HG := Lib.hid hg
    have hrd := HI.out.up hb
    clear hb hg
    by_cases hlt : k < x.ni
    · obtain ⟨y, hy⟩ : ∃ y, x.v.ins[k]? = some y := ⟨_, List.getElem?_eq_getElem (by have := HLEN.out; omega)⟩
      obtain ⟨b, off, hA, hblt⟩ := hrd.form (by omega)
      rw [hA] at hrd
      obtain ⟨c0, c1⟩ := hrd.at_ hy
      have HD := Lib.hid (drop_cons hy)
      have hW : Below wr.heap.size wr (wr.alloc (.cells #[.string y.name, .int .i64 y.value] 47)) := (Below.refl _ _).alloc (Nat.le_refl _) _
      have HB1 := Lib.hid (HB.out.trans (hW.mono HB.out.size))
      rw [hA]
      clear hy hrd hA hW
      cases hp : sEq y.name nm with
      | true =>
        have HE : Hid (inputI x.v.ins nm = y.value) := Lib.hid (by rw [HG.out, HD.out, inputI_cons, hp]; rfl)
        go_wp2_with fail
        go_ret
        exact ⟨ret_int HE.out.symm, HB1.out⟩
      | false =>
        have HE : Hid (inputI x.v.ins nm = inputI (x.v.ins.drop (k + 1)) nm) := Lib.hid (by rw [HG.out, HD.out, inputI_cons, hp]; rfl)
        go_wp2_with fail
        go_roundw
        case rel => exact ⟨k + 1, hlt, by go_num, HB1.out, HE.out⟩
        case measure => simp [intOf]; omega
    · have hd : x.v.ins.drop k = [] := by rw [List.drop_eq_nil_iff]; have := HLEN.out; omega
      have HE : Hid (inputI x.v.ins nm = 0) := Lib.hid (by rw [HG.out, hd]; rfl)
      clear hd hrd
      go_wp2_with fail
      go_ret
      exact ⟨ret_int HE.out.symm, HB.out⟩
end Go.Proofs.Ytodnjjlhklbniaa
