/- curve.Least. -/
import Derived.Test.YtkmhemcnpbhdfaaK6
namespace Go.Proofs.Ytkmhemcnpbhdfaa
open Go.ChangeShapes Go.WideShapes Go.ChangeAt Go.RowKit
set_option linter.unusedVariables false
attribute [local go_sem ↓] execOp_call_val
attribute [local go_sem] callVal_func setCell_drewN alloc_drewN

/-- what Least answers -/
def LeastSpec (ps : List (Int × Int)) (pk limit k e : Int) : Prop :=
  (ckC ps ≠ 0 ∧ k = 0 ∧ e = ckC ps) ∨ (ckC ps = 0 ∧ (pk < 1 ∨ 1000000 < pk ∨ limit < 0) ∧ k = 0 ∧ e = 4) ∨
  (ckC ps = 0 ∧ 1 ≤ pk ∧ pk ≤ 1000000 ∧ 0 ≤ limit ∧ ∃ m : Nat, Found (leastP ps pk limit) 1000001 m ∧ ((1000000 < m ∧ k = 0 ∧ e = 8) ∨ (m ≤ 1000000 ∧ k = m ∧ e = 0)))
def Ret2 (S : Int → Int → Prop) (e : Ending) : Prop := ∃ k x, e = .returned (.tuple #[.int .i64 k, .int .i64 x]) ∧ S k x

theorem boxes3 (w : World) (v1 v2 v3 : Value) (t1 t2 t3 : TypeId) :
    Below w.heap.size w (((w.alloc (.cells #[v1] t1)).alloc (.cells #[v2] t2)).alloc (.cells #[v3] t3)) ∧ Blk (((w.alloc (.cells #[v1] t1)).alloc (.cells #[v2] t2)).alloc (.cells #[v3] t3)) w.heap.size t1 #[v1] ∧
    Blk (((w.alloc (.cells #[v1] t1)).alloc (.cells #[v2] t2)).alloc (.cells #[v3] t3)) (w.heap.size + 1) t2 #[v2] ∧ Blk (((w.alloc (.cells #[v1] t1)).alloc (.cells #[v2] t2)).alloc (.cells #[v3] t3)) (w.heap.size + 1 + 1) t3 #[v3] :=
  ⟨(((Below.refl _ _).alloc (Nat.le_refl _) _).alloc (by simp) _).alloc (by simp; omega) _, ((Blk.new w t1 _).alloc _).alloc _, (Blk.new_ (by simp)).alloc _, Blk.new_ (by simp)⟩

theorem one_facts {w : World} {g : Nat} {t : TypeId} {v : Value} (h : Blk w g t #[v]) : w.cell? ⟨g, 0, none⟩ = some v ∧ w.frozen? ⟨g, 0, none⟩ = false ∧ g < w.heap.size := ⟨h.cell 0, h.frozen 0, h.lt⟩

set_option maxHeartbeats 2000000 in
theorem least_any (A : Option Addr) (n c : Nat) (ps : List (Int × Int)) (pk limit : Int) (w : World) (hr : RdP w w.heap.size A n ps) (hm : n ≤ 9223372036854775807) :
    Calls Try.prog 31 #[.slice A n c, .int .i64 pk, .int .i64 limit] w fun e w' => Ret2 (LeastSpec ps pk limit) e ∧ Below w.heap.size w w' := by
  obtain ⟨K0, q1, q2, q3⟩ := boxes3 w (.slice A n c) (.int .i64 pk) (.int .i64 limit) 49 3 3
  have hr3 := Lib.hid ((hr.below K0 (Nat.le_refl _)).more K0.size)
  have HK0 := Lib.hid K0
  have Q1 := Lib.hid q1
  have Q2 := Lib.hid q2
  have Q3 := Lib.hid q3
  clear K0 q1 q2 q3
  by_cases hc : ckC ps = 0
  · have hg := ckC_good.1 hc
    have HC := Lib.hid hc
    clear hc
    go_enter Try.func31, Try.ntmps31
    go_wp2_with fail
    refine (checkC_any _ _ _ ps _ hr3.out hm).mono ?_
    rw [HC.out]
    rintro e w1 ⟨rfl, hb1⟩
    have K1 := HK0.out.trans (hb1.mono HK0.out.size)
    have HQ1 := Lib.hid (Q1.out.below hb1 Q1.out.lt)
    have HQ2 := Lib.hid (Q2.out.below hb1 Q2.out.lt)
    have HQ3 := Lib.hid (Q3.out.below hb1 Q3.out.lt)
    obtain ⟨c1, f1, l1⟩ := one_facts HQ1.out
    obtain ⟨c2, f2, l2⟩ := one_facts HQ2.out
    obtain ⟨c3, f3, l3⟩ := one_facts HQ3.out
    clear hb1 Q1 Q2 Q3 HK0 hr3
    by_cases h1 : outN pk 1 1000000 = true
    · have hpk : pk < 1 ∨ 1000000 < pk := by unfold outN at h1; simpa using h1
      go_wp2_with fail
      refine (outN_any _ _ _ _).mono ?_
      rintro e w' ⟨rfl, rfl⟩
      go_wp2_with fail
      go_ret2
      exact ⟨⟨0, 4, rfl, .inr (.inl ⟨HC.out, by omega, rfl, rfl⟩)⟩, K1⟩
    · have h1' : outN pk 1 1000000 = false := by simpa using h1
      have hpk : 1 ≤ pk ∧ pk ≤ 1000000 := by unfold outN at h1'; simp at h1'; omega
      obtain ⟨p1, p2⟩ := hpk
      clear h1
      by_cases h2 : limit < 0
      · go_wp2_with fail
        refine (outN_any _ _ _ _).mono ?_
        rintro e w' ⟨rfl, rfl⟩
        go_wp2_with fail
        go_ret2
        exact ⟨⟨0, 4, rfl, .inr (.inl ⟨HC.out, by omega, rfl, rfl⟩)⟩, K1⟩
      · go_wp2_with fail
        refine (outN_any _ _ _ _).mono ?_
        rintro e w' ⟨rfl, rfl⟩
        go_wp2_with fail
        refine (search_any 52 #[.pointer (some ⟨w.heap.size, 0, none⟩), .pointer (some ⟨w.heap.size + 1, 0, none⟩), .pointer (some ⟨w.heap.size + 1 + 1, 0, none⟩)] 1000001 (leastP ps pk limit) (fun w' => Below w1.heap.size w1 w') enter52 ?_ (by omega) _ (Below.refl _ _)).mono ?_
        · intro i w2 hi hb2
          have r1 := HQ1.out.below hb2 HQ1.out.lt
          have r2 := HQ2.out.below hb2 HQ2.out.lt
          have r3 := HQ3.out.below hb2 HQ3.out.lt
          exact (least1_any A n c ps pk limit i w2 _ _ _ (r1.cell 0) (r2.cell 0) (r3.cell 0) r3.lt (((hr.below K1 (Nat.le_refl _)).below hb2 K1.size).more (Nat.le_trans K1.size hb2.size)) hg p1 p2 (by omega)).mono fun e w3 ⟨he, hb3⟩ => ⟨he, hb2.trans (hb3.mono hb2.size)⟩
        · rintro e w2 ⟨m, rfl, hfound, hb2⟩
          have HFd := Lib.hid hfound
          clear hfound
          have K2 := K1.trans (hb2.mono K1.size)
          by_cases hmm : 1000000 < m
          · go_wp2_with fail
            go_ret2
            exact ⟨⟨0, 8, rfl, .inr (.inr ⟨HC.out, p1, p2, by omega, m, HFd.out, .inl ⟨hmm, rfl, rfl⟩⟩)⟩, K2⟩
          · go_wp2_with fail
            go_ret2
            exact ⟨⟨m, 0, rfl, .inr (.inr ⟨HC.out, p1, p2, by omega, m, HFd.out, .inr ⟨by omega, rfl, rfl⟩⟩)⟩, K2⟩
  · have hc1 : (ckC ps != 0) = true := by simpa using hc
    have HCN := Lib.hid hc
    clear hc
    go_enter Try.func31, Try.ntmps31
    go_wp2_with fail
    refine (checkC_any _ _ _ ps _ hr3.out hm).mono ?_
    rintro e w1 ⟨rfl, hb1⟩
    have K1 := HK0.out.trans (hb1.mono HK0.out.size)
    go_wp2_with fail
    go_ret2
    exact ⟨⟨0, ckC ps, rfl, .inl ⟨HCN.out, rfl, rfl⟩⟩, K1⟩
end Go.Proofs.Ytkmhemcnpbhdfaa
