/- relaylang.Print. -/
import Derived.Test.YtaanoljfhnfjoaaGreatDoorRG1
import Derived.Test.YtaanoljfhnfjoaaGreatDoorRE4
import Derived.Test.YtaanoljfhnfjoaaGreatDoorDD
namespace Go.Proofs.YtaanoljfhnfjoaaGreatDoor
open Go.ChangeShapes Go.WideShapes Go.ChangeAt Go.RowKit
set_option linter.unusedVariables false
set_option linter.unusedSimpArgs false
attribute [local go_sem ↓] execOp_call_val
attribute [local go_sem] callVal_func setCell_drewN alloc_drewN sEq_walk

theorem rname_len {s : ByteArray} (h : rnameB s = true) : (bbs s).length ≤ 8 := by
  unfold rnameB at h
  rw [Bool.and_eq_true, Bool.and_eq_true, decide_eq_true_eq] at h
  exact h.1.2.2
theorem paren_two (b : Bool) (s : Bs) : (paren b s).length ≤ s.length + 2 := (paren_len b s).2
theorem pr_len : ∀ t : Tr, t.Ok → (t.pr NM).length ≤ 24 * t.flat.length
  | .flag s, h => by have := rname_len h; simp only [Tr.pr, Tr.flat, List.length_cons, List.length_nil]; omega
  | .gt s v, h => by
    have := rname_len h.1
    have := (NM.dig v h.2.1 h.2.2).2.2.1
    simp only [Tr.pr, Tr.flat, List.length_cons, List.length_nil, List.length_append, kGT]; omega
  | .lt s v, h => by
    have := rname_len h.1
    have := (NM.dig v h.2.1 h.2.2).2.2.1
    simp only [Tr.pr, Tr.flat, List.length_cons, List.length_nil, List.length_append, kLT]; omega
  | .not a, h => by
    have := pr_len a h
    have := paren_two a.isAO (a.pr NM)
    simp only [Tr.pr, Tr.flat, List.length_cons, List.length_nil, List.length_append, kNOT]; omega
  | .and a b, h => by
    have := pr_len a h.1
    have := pr_len b h.2
    have := paren_two a.isOr (a.pr NM)
    have := paren_two b.isAO (b.pr NM)
    simp only [Tr.pr, Tr.flat, List.length_cons, List.length_nil, List.length_append, kAND]; omega
  | .or a b, h => by
    have := pr_len a h.1
    have := pr_len b h.2
    have := paren_two b.isOr (b.pr NM)
    simp only [Tr.pr, Tr.flat, List.length_cons, List.length_nil, List.length_append, kOR]; omega
  | .delay v a, h => by
    have := pr_len a h.2
    have := (NM.dig v h.1.1 h.1.2).2.2.1
    simp only [Tr.pr, Tr.flat, List.length_cons, List.length_nil, List.length_append, kDELAY, kC, kR]; omega
  | .latch a b, h => by
    have := pr_len a h.1
    have := pr_len b h.2
    simp only [Tr.pr, Tr.flat, List.length_cons, List.length_nil, List.length_append, kLATCH, kC, kR]; omega
theorem trees_of : ∀ (p : List Rl), (∀ r ∈ p, (∀ x ∈ r.expr, nodeCk x = 0) ∧ endR r.expr 0 = (r.expr.length : Int)) → ∃ ts, Trees p ts
  | [], _ => ⟨[], trivial⟩
  | r :: p, h => by
    obtain ⟨ts, hts⟩ := trees_of p fun x hx => h x (by simp [hx])
    obtain ⟨h1, h2⟩ := h r (by simp)
    obtain ⟨t, ht, _⟩ := tree_all h1 h2
    exact ⟨t :: ts, ht, hts⟩
theorem trees_ck {p : List Rl} (h : ckR p = 0) : ∃ ts, Trees p ts := trees_of p fun r hr => by
  obtain ⟨i, hi⟩ := List.mem_iff_getElem?.1 hr
  have := (ckR_ok h).rule i r hi
  exact ⟨this.nodes, this.form⟩
theorem line_len {p : List Rl} {ts : List Tr} (h : AllOk p ts) : (textT NM p ts).length ≤ 1548 * p.length := by
  unfold textT
  obtain ⟨h1, h2, h3⟩ := h
  induction p generalizing ts with
  | nil => cases ts with
    | nil => simp [linesT]
    | cons a b => cases h1
  | cons r p ih =>
    cases ts with
    | nil => cases h1
    | cons t ts =>
      have := ih h1.2 (fun x hx => h2 x (by simp [hx])) (fun x hx => h3 x (by simp [hx]))
      have a1 := pr_len t (h3 t (by simp))
      have a2 := rname_len (h2 r (by simp)).1
      have a3 := (h2 r (by simp)).2
      rw [h1.1] at a3
      simp only [linesT, List.flatMap_cons, List.length_append, lineT, List.length_cons, List.length_nil, kEQ]
      omega
theorem text_cons (r : Rl) (p : List Rl) (t : Tr) (ts : List Tr) : textT NM (r :: p) (t :: ts) = (lineT NM r.name t ++ [10]) ++ textT NM p ts := rfl
theorem trees_at : ∀ {p : List Rl} {ts : List Tr} {k : Nat} {r : Rl}, Trees p ts → p[k]? = some r → ∃ t, ts[k]? = some t ∧ r.expr = t.flat
  | _ :: _, t :: _, 0, r, h, e => by simp at e; subst e; exact ⟨t, rfl, h.1⟩
  | _ :: p, _ :: ts, k + 1, r, h, e => by simp at e; exact trees_at (p := p) (ts := ts) h.2 e
  | [], _, _, _, _, e => by simp at e
  | _ :: _, [], _, _, h, _ => by cases h
theorem bsB_app (a b : Bs) : bsB (a ++ b) = bsB a ++ bsB b := by
  apply bl_inj
  simp [bl, bsB]
/-- what Print answers -/
def PrintE (p : List Rl) (w : World) (e : Ending) (w' : World) : Prop :=
  Below w.heap.size w w' ∧ ((ckR p ≠ 0 ∧ e = .returned (.tuple #[.string ⟨#[]⟩, .int .i64 (ckR p)])) ∨ (ckR p = 0 ∧ ∃ ts, Trees p ts ∧ ((8192 < (textT NM p ts).length ∧ e = .returned (.tuple #[.string ⟨#[]⟩, .int .i64 2])) ∨ ((textT NM p ts).length ≤ 8192 ∧ e = .returned (.tuple #[.string (bsB (textT NM p ts)), .int .i64 0])))))
set_option maxRecDepth 100000 in
set_option maxHeartbeats 4000000 in
theorem print_any (A : Option Addr) (n c : Nat) (hs : List Rh) (w : World) (hR : RdRh w w.heap.size A n hs) (hn : n ≤ c) (hc : c ≤ maxLen) (hf : ∀ z ∈ hs, z.r.Fit) (hE : EnvJ w) :
    Calls Tryz.prog 8 #[.slice A n c] w (PrintE (rls hs) w) := by
  have HP : Hid (∀ e w', PrintE (rls hs) w e w' = (Below w.heap.size w w' ∧ ((ckR (rls hs) ≠ 0 ∧ e = .returned (.tuple #[.string ⟨#[]⟩, .int .i64 (ckR (rls hs))])) ∨ (ckR (rls hs) = 0 ∧ ∃ ts, Trees (rls hs) ts ∧ ((8192 < (textT NM (rls hs) ts).length ∧ e = .returned (.tuple #[.string ⟨#[]⟩, .int .i64 2])) ∨ ((textT NM (rls hs) ts).length ≤ 8192 ∧ e = .returned (.tuple #[.string (bsB (textT NM (rls hs) ts)), .int .i64 0]))))))) := Lib.hid fun _ _ => rfl
  have HR := Lib.hid hR
  have HF := Lib.hid hf
  have HE := Lib.hid hE
  have HPL : Hid ((rls hs).length = n) := Lib.hid (by unfold rls; rw [List.length_map]; exact hR.len)
  have HHC := Lib.hid hc
  clear hR hf hc hE
  go_enter Tryz.func8, Tryz.ntmps8
  go_wp2_with fail
  refine (rcheck_any A n c hs w HR.out hn HHC.out HF.out).mono ?_
  rintro e w1 ⟨rfl, k1⟩
  have HB1 := Lib.hid k1
  clear k1
  generalize hck : ckR (rls hs) = ck at *
  by_cases h0 : ck = 0
  rotate_left
  · have h0b : (ck != 0) = true := by simpa using h0
    have H0 := Lib.hid h0
    clear hck h0
    go_wp2_with fail
    go_ret2
    rw [HP.out]
    exact ⟨HB1.out, .inl ⟨H0.out, rfl⟩⟩
  subst h0
  have HCK := Lib.hid hck
  have hpo := ckR_ok hck
  obtain ⟨ts, hts⟩ := trees_ck hck
  have hall := allOk_of hck hts
  have hll := line_len hall
  have hn16 : n ≤ 16 := by have := hpo.len; have := HPL.out; omega
  have HPO := Lib.hid hpo
  have HTS := Lib.hid hts
  have HALL := Lib.hid hall
  have HTL : Hid ((textT NM (rls hs) ts).length ≤ 24768) := Lib.hid (by have := HPL.out; omega)
  have HE1 := Lib.hid (HE.out.up HB1.out)
  have HR1 := Lib.hid (HR.out.up HB1.out)
  clear hck hpo hts hall hll
  go_wp2_with fail
  go_loopw [5, 17] (fun sv iv wr => ∃ (k : Nat) (acc : ByteArray), k ≤ n ∧ iv = .int .i64 k ∧ sv = .string acc ∧ bbs acc ++ textT NM ((rls hs).drop k) (ts.drop k) = textT NM (rls hs) ts ∧ Below w1.heap.size w1 wr) (fun _ iv _ => n - (intOf iv).toNat)
  case atStart => exact ⟨0, ⟨#[]⟩, by omega, rfl, rfl, rfl, Below.refl _ _⟩
  case round =>
    obtain ⟨k, acc, hk, rfl, rfl, hacc, hb⟩ := hrel
    have HACC := Lib.hid hacc
    have HB := Lib.hid hb
    have HER := Lib.hid (HE1.out.up hb)
    have hra := HR1.out.up hb
    have hal : acc.size ≤ 24768 := by
      have h1 := congrArg List.length hacc
      rw [List.length_append] at h1
      have h2 := HTL.out
      have h3 : (bbs acc).length = acc.size := rfl
      omega
    have hb1 := HB1.out.trans (hb.mono HB1.out.size)
    have HBW := Lib.hid hb1
    clear hacc hb hb1
    by_cases hlt : k < n
    · obtain ⟨z, hz⟩ : ∃ z, hs[k]? = some z := ⟨_, List.getElem?_eq_getElem (by have := hra.len; omega)⟩
      have hzr : (rls hs)[k]? = some z.r := by unfold rls; rw [List.getElem?_map, hz]; rfl
      obtain ⟨t, ht, hzt⟩ := trees_at HTS.out hzr
      obtain ⟨b, off, rfl, hbl⟩ := hra.form (by omega)
      obtain ⟨c0, c1⟩ := hra.at_ hz
      obtain ⟨z1, z2⟩ := hra.zs z (List.mem_of_getElem? hz)
      have hok : t.Ok := HALL.out.2.2 t (List.mem_of_getElem? ht)
      have hzl := (HALL.out.2.1 z.r (List.mem_of_getElem? hzr))
      have hrul := HPO.out.rule k z.r hzr
      have HLINE : Hid (bbs acc ++ (lineT NM z.r.name t ++ [10]) ++ textT NM ((rls hs).drop (k + 1)) (ts.drop (k + 1)) = textT NM (rls hs) ts) := Lib.hid (by
        rw [← HACC.out, drop_cons hzr, drop_cons ht, text_cons, List.append_assoc])
      have hpl := pr_len t hok
      have hnl := rname_len hzl.1
      have hzlen := z1.1
      have hz64 := hzl.2
      have HZ1 := Lib.hid z1
      have HZT := Lib.hid hzt
      have hlen64 : t.flat.length ≤ 64 := by rw [← hzt]; exact hz64
      have HPRL : Hid ((t.pr NM).length ≤ 1536) := Lib.hid (by omega)
      have hnms : z.r.name.size ≤ 8 := hnl
      have hzn : z.n ≤ 64 := by omega
      have HVV : Hid (∀ x ∈ z.r.expr, 0 ≤ x.value ∧ x.value ≤ 1000000) := Lib.hid fun x hx => by
        have h1 := nodeCk_val (hrul.nodes x hx)
        unfold lowN highN at h1
        split at h1 <;> split at h1 <;> (try split at h1) <;> omega
      clear hra hz hzr ht hzt hok hzl hrul z1 z2 hpl hnl hzlen hz64 hlen64
      go_wp2_with fail
      have hb3 : Below wr.heap.size wr (wr.alloc (.cells #[.string z.r.name, .slice z.A z.n z.c] 39)) := (Below.refl _ _).alloc (Nat.le_refl _) _
      have hr3 : Blk (wr.alloc (.cells #[.string z.r.name, .slice z.A z.n z.c] 39)) wr.heap.size 39 #[.string z.r.name, .slice z.A z.n z.c] := Blk.new _ _ _
      obtain ⟨q, hq⟩ : ∃ q, q = wr.heap.size := ⟨_, rfl⟩
      rw [← hq] at hr3 ⊢
      generalize (wr.alloc (.cells #[.string z.r.name, .slice z.A z.n z.c] 39)) = w3 at *
      clear hq c0 c1
      refine (text_any t z.A z.n z.c z.r.expr 0 w3 (HZ1.out.up hb3) hzn HVV.out ⟨[], by rw [List.append_nil]; exact HZT.out⟩ (by have := HPRL.out; omega) (HER.out.up hb3)).mono ?_
      rintro e w4 ⟨rfl, k4⟩
      have hr4 := hr3.below k4 hr3.lt
      have d0 := hr4.cell 0
      have dl := hr4.lt
      have df := hr4.frozen
      have HB4 := Lib.hid (HB.out.trans ((hb3.trans (k4.mono hb3.size)).mono HB.out.size))
      obtain ⟨tx, htx⟩ : ∃ q, q = bsB (t.pr NM) := ⟨_, rfl⟩
      have htl : tx.size ≤ 1536 := by rw [htx]; exact HPRL.out
      have HTX : Hid (bbs tx = t.pr NM) := Lib.hid (by rw [htx]; rfl)
      rw [← htx]
      clear hr3 hr4 k4 hb3 htx
      generalize ((0 + t.flat.length : Nat) : Int) = en at *
      generalize hnm : z.r.name = nm at *
      have HL2 : Hid (bbs (acc ++ (nm ++ ⟨#[32, 61, 32]⟩ ++ tx ++ ⟨#[10]⟩)) ++ textT NM ((rls hs).drop (k + 1)) (ts.drop (k + 1)) = textT NM (rls hs) ts) := Lib.hid (by
        rw [← HLINE.out]
        unfold lineT
        rw [← HTX.out]
        simp [bbs, kEQ])
      clear hnm
      go_wp2_with fail
      go_roundw
      case rel => exact ⟨k + 1, _, hlt, by go_num, rfl, HL2.out, HB4.out⟩
      case measure => simp [intOf]; omega
    · have hd1 : (rls hs).drop k = [] := by rw [List.drop_eq_nil_iff, HPL.out]; omega
      have HAT : Hid (acc = bsB (textT NM (rls hs) ts)) := Lib.hid (by
        have h := HACC.out
        rw [hd1, show textT NM [] (ts.drop k) = [] from by cases ts.drop k <;> rfl, List.append_nil] at h
        apply bl_inj
        exact h)
      have HSZ : Hid (acc.size = (textT NM (rls hs) ts).length) := Lib.hid (by rw [HAT.out]; rfl)
      clear hd1 hra
      by_cases hbig : 8192 < acc.size
      · have hbI : (8192 : Int) < (acc.size : Int) := by omega
        go_wp2_with fail
        go_ret2
        rw [HP.out]
        exact ⟨HBW.out, .inr ⟨by first | exact HCK.out | trivial, ts, HTS.out, .inl ⟨by rw [← HSZ.out]; exact hbig, rfl⟩⟩⟩
      · have hbI : ¬ (8192 : Int) < (acc.size : Int) := by omega
        go_wp2_with fail
        go_ret2
        rw [HP.out]
        exact ⟨HBW.out, .inr ⟨by first | exact HCK.out | trivial, ts, HTS.out, .inr ⟨by rw [← HSZ.out]; omega, by rw [HAT.out]; rfl⟩⟩⟩
end Go.Proofs.YtaanoljfhnfjoaaGreatDoor
