/- What is read is a tree, and not shorter than its text; trees of checked lists. No program in this text. -/
import Derived.Test.YtaanoljfhnfjoaaGreatDoorRE1
namespace Go.Proofs.YtaanoljfhnfjoaaGreatDoor
set_option linter.unusedVariables false
set_option linter.unusedSimpArgs false
variable {N : Num}

theorem paren_len (b : Bool) (s : Bs) : s.length ≤ (paren b s).length ∧ (paren b s).length ≤ s.length + 2 := by
  cases b <;> simp [paren, kL, kR] <;> omega
theorem fac_len (N : Num) (t : Tr) : (t.fac N).length ≤ (t.pr N).length + 2 := (paren_len _ _).2
theorem term_fac (N : Num) (t : Tr) : (t.term N).length ≤ (t.fac N).length := by
  unfold Tr.term Tr.fac
  cases t <;> first | exact Nat.le_refl _ | exact (paren_len _ _).1
theorem pr_term (N : Num) (t : Tr) : (t.pr N).length ≤ (t.term N).length := (paren_len _ _).1
/-- a part reads trees -/
def Reads (N : Num) (sz : Tr → Nat) (p : Part) : Prop := ∀ s q, p s = some q → ∃ t : Tr, q.1 = t.flat ∧ sz t + q.2.length ≤ s.length
theorem go_reads {w : Bs} {op : Int} {p : Part} {sz szp : Tr → Nat} (mk : Tr → Tr → Tr) (hmk : ∀ a b, (mk a b).flat = ⟨op, ⟨#[]⟩, 0⟩ :: (a.flat ++ b.flat)) (hsz : ∀ a b, sz (mk a b) ≤ sz a + w.length + szp b) (hp : Reads N szp p) :
    ∀ (k : Nat) (t : Tr) (s : Bs) (q : List Nd × Bs) (c : Nat), sz t + s.length ≤ c → chainGo w op p k t.flat s = some q → ∃ u : Tr, q.1 = u.flat ∧ sz u + q.2.length ≤ c
  | 0, t, s, q, c, h, e => by simp only [chainGo, Option.some.injEq] at e; rw [← e]; exact ⟨t, rfl, h⟩
  | k + 1, t, s, q, c, h, e => by
    simp only [chainGo] at e
    cases h1 : takeP w s with
    | none => rw [h1] at e; simp only [Option.some.injEq] at e; rw [← e]; exact ⟨t, rfl, h⟩
    | some r =>
      rw [h1] at e
      simp only at e
      have := takeP_len h1
      cases h2 : p r with
      | none => rw [h2] at e; cases e
      | some v =>
        rw [h2] at e
        simp only at e
        obtain ⟨b, b1, b2⟩ := hp _ _ h2
        rw [b1, ← hmk] at e
        have := hsz t b
        exact go_reads mk hmk hsz hp k (mk t b) v.2 q c (by omega) e
theorem chain_reads {w : Bs} {op : Int} {p : Part} {sz szp : Tr → Nat} (mk : Tr → Tr → Tr) (hmk : ∀ a b, (mk a b).flat = ⟨op, ⟨#[]⟩, 0⟩ :: (a.flat ++ b.flat)) (hsz : ∀ a b, sz (mk a b) ≤ sz a + w.length + szp b) (h0 : ∀ a, sz a ≤ szp a) (hp : Reads N szp p) : Reads N sz (chainP w op p) := fun s q e => by
  unfold chainP at e
  cases h1 : p s with
  | none => rw [h1] at e; cases e
  | some u =>
    rw [h1] at e
    simp only at e
    obtain ⟨t, t1, t2⟩ := hp _ _ h1
    rw [t1] at e
    have := h0 t
    exact go_reads mk hmk hsz hp _ t _ q _ (by omega) e
theorem atom_reads (N : Num) : Reads N (fun t => (t.fac N).length) (atomP N) := fun s q e => by
  unfold atomP at e
  cases h1 : nameP s with
  | none => rw [h1] at e; cases e
  | some a =>
    rw [h1] at e
    simp only at e
    have k1 := (nameP_len h1).1
    cases h2 : takeP kGT a.2 with
    | some r =>
      rw [h2] at e
      simp only at e
      have k2 := takeP_len h2
      cases h3 : numP N r with
      | none => rw [h3] at e; cases e
      | some u =>
        rw [h3] at e
        simp only [Option.some.injEq] at e
        have := numP_len h3
        rw [← e]
        refine ⟨.gt a.1 u.1, rfl, ?_⟩
        show (bbs a.1 ++ (kGT ++ N.dg u.1)).length + u.2.length ≤ _
        rw [List.length_append, List.length_append]; omega
    | none =>
      rw [h2] at e
      simp only at e
      cases h4 : takeP kLT a.2 with
      | some r =>
        rw [h4] at e
        simp only at e
        have k2 := takeP_len h4
        cases h3 : numP N r with
        | none => rw [h3] at e; cases e
        | some u =>
          rw [h3] at e
          simp only [Option.some.injEq] at e
          have := numP_len h3
          rw [← e]
          refine ⟨.lt a.1 u.1, rfl, ?_⟩
          show (bbs a.1 ++ (kLT ++ N.dg u.1)).length + u.2.length ≤ _
          rw [List.length_append, List.length_append]; omega
      | none =>
        rw [h4] at e
        simp only [Option.some.injEq] at e
        rw [← e]
        refine ⟨.flag a.1, rfl, ?_⟩
        show (bbs a.1).length + a.2.length ≤ _
        omega
theorem facS_reads {fac ex : Part} (h1 : Reads N (fun t => (t.fac N).length) fac) (h2 : Reads N (fun t => (t.pr N).length) ex) : Reads N (fun t => (t.fac N).length) (facS N fac ex) := fun s q e => by
  unfold facS at e
  cases a1 : takeP kNOT s with
  | some r =>
    rw [a1] at e
    simp only [notP] at e
    have := takeP_len a1
    cases b1 : fac r with
    | none => rw [b1] at e; cases e
    | some u =>
      rw [b1] at e
      simp only [Option.some.injEq] at e
      obtain ⟨t, t1, t2⟩ := h1 _ _ b1
      simp only at t2
      rw [← e]
      refine ⟨.not t, by rw [t1]; rfl, ?_⟩
      show (kNOT ++ t.fac N).length + u.2.length ≤ _
      rw [List.length_append]; omega
  | none =>
    rw [a1] at e
    simp only at e
    cases a2 : takeP kL s with
    | some r =>
      rw [a2] at e
      simp only [parP] at e
      have := takeP_len a2
      cases b1 : ex r with
      | none => rw [b1] at e; cases e
      | some u =>
        rw [b1] at e
        simp only at e
        obtain ⟨t, t1, t2⟩ := h2 _ _ b1
        obtain ⟨n1, n2, n3⟩ := needP_shr e
        have := fac_len N t
        refine ⟨t, by rw [n2, t1], ?_⟩
        simp only [kL, kR, List.length_cons, List.length_nil] at *
        omega
    | none =>
      rw [a2] at e
      simp only at e
      cases a3 : takeP kDELAY s with
      | some r =>
        rw [a3] at e
        simp only [delP] at e
        have := takeP_len a3
        cases b1 : ex r with
        | none => rw [b1] at e; cases e
        | some u =>
          rw [b1] at e
          simp only at e
          obtain ⟨t, t1, t2⟩ := h2 _ _ b1
          cases b2 : takeP kC u.2 with
          | none => rw [b2] at e; cases e
          | some v =>
            rw [b2] at e
            simp only at e
            have := takeP_len b2
            cases b3 : numP N v with
            | none => rw [b3] at e; cases e
            | some x =>
              rw [b3] at e
              simp only at e
              have := numP_len b3
              obtain ⟨n1, n2, n3⟩ := needP_shr e
              refine ⟨.delay x.1 t, by rw [n2, t1]; rfl, ?_⟩
              show (kDELAY ++ (t.pr N ++ (kC ++ (N.dg x.1 ++ kR)))).length + q.2.length ≤ _
              simp only [List.length_append] at *
              omega
      | none =>
        rw [a3] at e
        simp only at e
        cases a4 : takeP kLATCH s with
        | some r =>
          rw [a4] at e
          simp only [latP] at e
          have := takeP_len a4
          cases b1 : ex r with
          | none => rw [b1] at e; cases e
          | some u =>
            rw [b1] at e
            simp only at e
            obtain ⟨t, t1, t2⟩ := h2 _ _ b1
            cases b2 : takeP kC u.2 with
            | none => rw [b2] at e; cases e
            | some v =>
              rw [b2] at e
              simp only at e
              have := takeP_len b2
              cases b3 : ex v with
              | none => rw [b3] at e; cases e
              | some x =>
                rw [b3] at e
                simp only at e
                obtain ⟨t', t3, t4⟩ := h2 _ _ b3
                obtain ⟨n1, n2, n3⟩ := needP_shr e
                refine ⟨.latch t t', by rw [n2, t1, t3]; rfl, ?_⟩
                show (kLATCH ++ (t.pr N ++ (kC ++ (t'.pr N ++ kR)))).length + q.2.length ≤ _
                simp only [List.length_append] at *
                omega
        | none => rw [a4] at e; exact atom_reads N s q e
theorem term_reads_of {p : Part} (h : Reads N (fun t => (t.fac N).length) p) : Reads N (fun t => (t.term N).length) (chainP kAND 4 p) :=
  chain_reads Tr.and (fun a b => rfl) (fun a b => by
    show (a.term N ++ (kAND ++ b.fac N)).length ≤ _
    simp only [List.length_append]; omega) (fun a => term_fac N a) h
theorem expr_reads_of {p : Part} (h : Reads N (fun t => (t.term N).length) p) : Reads N (fun t => (t.pr N).length) (chainP kOR 5 p) :=
  chain_reads Tr.or (fun a b => rfl) (fun a b => by
    show (a.pr N ++ (kOR ++ b.term N)).length ≤ _
    simp only [List.length_append]; omega) (fun a => pr_term N a) h
theorem factor_reads (N : Num) : ∀ n, Reads N (fun t => (t.fac N).length) (factorP N n)
  | 0 => fun s q e => by simp [factorP] at e
  | n + 1 => by rw [factorP_succ]; exact facS_reads (factor_reads N n) (expr_reads_of (term_reads_of (factor_reads N n)))
theorem expr_reads (N : Num) (n : Nat) : Reads N (fun t => (t.pr N).length) (exprP N n) := expr_reads_of (term_reads_of (factor_reads N n))

/-! ### checked lists -/
theorem size_nil {s : ByteArray} (h : s.size = 0) : s = ⟨#[]⟩ := by
  obtain ⟨⟨l⟩⟩ := s
  have hl : l = [] := List.eq_nil_of_length_eq_zero h
  rw [hl]
theorem nd_name {x : Nd} (h : nodeCk x = 0) : (x.op ≤ 2 → rnameB x.name = true) ∧ (2 < x.op → x.name = ⟨#[]⟩) := by
  have ho := nodeCk_op h
  unfold nodeCk at h
  rw [if_neg (by omega)] at h
  by_cases h1 : x.op ≤ 2 ∧ rnameB x.name = false ∨ 2 < x.op ∧ 0 < x.name.size
  · rw [if_pos h1] at h; omega
  · refine ⟨fun h2 => ?_, fun h2 => ?_⟩
    · cases hh : rnameB x.name with
      | true => rfl
      | false => exact absurd (.inl ⟨h2, hh⟩) h1
    · have : x.name.size = 0 := by
        rcases Nat.eq_zero_or_pos x.name.size with h3 | h3
        · exact h3
        · exact absurd (.inr ⟨h2, h3⟩) h1
      exact size_nil this
theorem ok_of_ck : ∀ t : Tr, (∀ x ∈ t.flat, nodeCk x = 0) → t.Ok
  | .flag s, h => (nd_name (h ⟨0, s, 0⟩ (by simp [Tr.flat]))).1 (by show (0 : Int) ≤ 2; omega)
  | .gt s v, h => ⟨(nd_name (h ⟨1, s, v⟩ (by simp [Tr.flat]))).1 (by show (1 : Int) ≤ 2; omega), nodeCk_val (h ⟨1, s, v⟩ (by simp [Tr.flat]))⟩
  | .lt s v, h => ⟨(nd_name (h ⟨2, s, v⟩ (by simp [Tr.flat]))).1 (by show (2 : Int) ≤ 2; omega), nodeCk_val (h ⟨2, s, v⟩ (by simp [Tr.flat]))⟩
  | .not a, h => ok_of_ck a fun x hx => h x (by simp [Tr.flat, hx])
  | .and a b, h => ⟨ok_of_ck a fun x hx => h x (by simp [Tr.flat, hx]), ok_of_ck b fun x hx => h x (by simp [Tr.flat, hx])⟩
  | .or a b, h => ⟨ok_of_ck a fun x hx => h x (by simp [Tr.flat, hx]), ok_of_ck b fun x hx => h x (by simp [Tr.flat, hx])⟩
  | .delay v a, h => by
    have h1 := nodeCk_val (h ⟨6, ⟨#[]⟩, v⟩ (by simp [Tr.flat]))
    have h2 : (1 : Int) ≤ v ∧ v ≤ 100000 := h1
    exact ⟨⟨by omega, by omega⟩, ok_of_ck a fun x hx => h x (by simp [Tr.flat, hx])⟩
  | .latch a b, h => ⟨ok_of_ck a fun x hx => h x (by simp [Tr.flat, hx]), ok_of_ck b fun x hx => h x (by simp [Tr.flat, hx])⟩
theorem slice_cons {l : List Nd} {a e : Nat} {x : Nd} (hx : l[a]? = some x) (h : a < e) : (l.drop a).take (e - a) = x :: (l.drop (a + 1)).take (e - (a + 1)) := by
  obtain ⟨hl, he⟩ := List.getElem?_eq_some_iff.1 hx
  rw [List.drop_eq_getElem_cons hl, he, show e - a = (e - (a + 1)) + 1 from by omega, List.take_succ_cons]
theorem slice_app {l : List Nd} {a m e : Nat} (h1 : a ≤ m) (h2 : m ≤ e) : (l.drop a).take (e - a) = (l.drop a).take (m - a) ++ (l.drop m).take (e - m) := by
  rw [show e - a = (m - a) + (e - m) from by omega, List.take_add, List.drop_drop, show a + (m - a) = m from by omega]
theorem nd_eq {x : Nd} {o v : Int} {s : ByteArray} (h1 : x.op = o) (h2 : x.name = s) (h3 : x.value = v) : x = ⟨o, s, v⟩ := by
  obtain ⟨a, b, c⟩ := x
  simp only at h1 h2 h3
  rw [h1, h2, h3]
theorem tree_of {l : List Nd} (hc : ∀ x ∈ l, nodeCk x = 0) : ∀ (f a e : Nat), Sub l a e → e - a ≤ f → ∃ t : Tr, (l.drop a).take (e - a) = t.flat
  | 0, a, e, h, hf => by have := h.2.1; omega
  | f + 1, a, e, h, hf => by
    obtain ⟨x, hx⟩ := h.get
    have hlt := h.2.1
    have hk := hc x (List.mem_of_getElem? hx)
    have ho := nodeCk_op hk
    obtain ⟨n1, n2⟩ := nd_name hk
    obtain ⟨v1, v2⟩ := nodeCk_val hk
    unfold lowN at v1
    unfold highN at v2
    rw [slice_cons hx hlt]
    by_cases o0 : x.op ≤ 2
    · have he := h.leaf hx (by unfold opn; rw [if_neg (by omega), if_neg (by omega)])
      rw [he, Nat.sub_self, List.take_zero]
      by_cases o1 : x.op = 0
      · rw [if_neg (by omega)] at v1
        rw [if_neg (by omega), if_neg (by omega)] at v2
        exact ⟨.flag x.name, by rw [nd_eq (x := x) o1 rfl (by omega : x.value = 0)]; rfl⟩
      · by_cases o2 : x.op = 1
        · exact ⟨.gt x.name x.value, by rw [nd_eq (x := x) o2 rfl rfl]; rfl⟩
        · exact ⟨.lt x.name x.value, by rw [nd_eq (x := x) (by omega : x.op = 2) rfl rfl]; rfl⟩
    · have hn := n2 (by omega)
      by_cases o6 : x.op = 6
      · have h1 := h.one hx (by unfold opn; rw [if_pos (.inr o6)])
        obtain ⟨t, ht⟩ := tree_of hc f (a + 1) e h1 (by omega)
        exact ⟨.delay x.value t, by rw [ht]; rw [nd_eq (x := x) o6 hn rfl]; rfl⟩
      · have hv : x.value = 0 := by
          rw [if_neg o6] at v1
          rw [if_neg (by omega), if_neg o6] at v2
          omega
        by_cases o3 : x.op = 3
        · have h1 := h.one hx (by unfold opn; rw [if_pos (.inl o3)])
          obtain ⟨t, ht⟩ := tree_of hc f (a + 1) e h1 (by omega)
          exact ⟨.not t, by rw [ht, nd_eq (x := x) o3 hn hv]; rfl⟩
        · obtain ⟨m, h1, h2⟩ := h.two hx (by unfold opn; rw [if_neg (by omega), if_pos (by omega)])
          have l1 := h1.2.1
          have l2 := h2.2.1
          obtain ⟨t, ht⟩ := tree_of hc f (a + 1) m h1 (by omega)
          obtain ⟨u, hu⟩ := tree_of hc f m e h2 (by omega)
          rw [slice_app (show a + 1 ≤ m by omega) (show m ≤ e by omega), ht, hu]
          by_cases o4 : x.op = 4
          · exact ⟨.and t u, by rw [nd_eq (x := x) o4 hn hv]; rfl⟩
          · by_cases o5 : x.op = 5
            · exact ⟨.or t u, by rw [nd_eq (x := x) o5 hn hv]; rfl⟩
            · exact ⟨.latch t u, by rw [nd_eq (x := x) (by omega : x.op = 7) hn hv]; rfl⟩
/-- a checked expression is a tree -/
theorem tree_all {l : List Nd} (hc : ∀ x ∈ l, nodeCk x = 0) (he : endR l 0 = (l.length : Int)) : ∃ t : Tr, l = t.flat ∧ t.Ok := by
  have hpos : 0 < l.length := by
    rcases Nat.eq_zero_or_pos l.length with h0 | h0
    · have : l = [] := List.eq_nil_of_length_eq_zero h0
      rw [this] at he
      exact absurd he (by decide)
    · exact h0
  obtain ⟨t, ht⟩ := tree_of hc l.length 0 l.length ⟨Nat.le_refl _, hpos, he⟩ (by omega)
  rw [List.drop_zero, Nat.sub_zero, List.take_length] at ht
  exact ⟨t, ht, ok_of_ck t (by rw [← ht]; exact hc)⟩
end Go.Proofs.YtaanoljfhnfjoaaGreatDoor
