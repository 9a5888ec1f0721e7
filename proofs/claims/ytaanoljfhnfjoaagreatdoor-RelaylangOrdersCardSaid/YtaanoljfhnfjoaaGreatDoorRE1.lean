/- What is printed is read back. No program in this text. -/
import Derived.Test.YtaanoljfhnfjoaaGreatDoorRE0
namespace Go.Proofs.YtaanoljfhnfjoaaGreatDoor
set_option linter.unusedVariables false
set_option linter.unusedSimpArgs false

theorem needP_shr {w : Bs} {q u : List Nd × Bs} (h : needP w q = some u) : u.2.length ≤ q.2.length ∧ u.1 = q.1 ∧ q.2.length = w.length + u.2.length := by
  unfold needP at h
  cases h1 : takeP w q.2 with
  | none => rw [h1] at h; cases h
  | some r =>
    rw [h1] at h
    simp only [Option.some.injEq] at h
    have := takeP_len h1
    rw [← h]
    exact ⟨by simp only; omega, rfl, by simp only; omega⟩
theorem atomP_shr (N : Num) : Shr (atomP N) := fun s q e => by
  unfold atomP at e
  cases h1 : nameP s with
  | none => rw [h1] at e; cases e
  | some a =>
    rw [h1] at e
    simp only at e
    have k1 := (nameP_len h1).1
    cases h2 : takeP kGT a.2 with
    | some r =>
      rw [h2] at e
      simp only at e
      have k2 := takeP_len h2
      cases h3 : numP N r with
      | none => rw [h3] at e; cases e
      | some u => rw [h3] at e; simp only [Option.some.injEq] at e; have := numP_len h3; rw [← e]; simp only; omega
    | none =>
      rw [h2] at e
      simp only at e
      cases h4 : takeP kLT a.2 with
      | some r =>
        rw [h4] at e
        simp only at e
        have k2 := takeP_len h4
        cases h3 : numP N r with
        | none => rw [h3] at e; cases e
        | some u => rw [h3] at e; simp only [Option.some.injEq] at e; have := numP_len h3; rw [← e]; simp only; omega
      | none => rw [h4] at e; simp only [Option.some.injEq] at e; rw [← e]; simp only; omega
theorem facS_shr {N : Num} {fac ex : Part} (h1 : Shr fac) (h2 : Shr ex) : Shr (facS N fac ex) := fun s q e => by
  unfold facS at e
  cases a1 : takeP kNOT s with
  | some r =>
    rw [a1] at e
    simp only [notP] at e
    have := takeP_len a1
    cases b1 : fac r with
    | none => rw [b1] at e; cases e
    | some u => rw [b1] at e; simp only [Option.some.injEq] at e; have := h1 _ _ b1; rw [← e]; simp only; omega
  | none =>
    rw [a1] at e
    simp only at e
    cases a2 : takeP kL s with
    | some r =>
      rw [a2] at e
      simp only [parP] at e
      have := takeP_len a2
      cases b1 : ex r with
      | none => rw [b1] at e; cases e
      | some u => rw [b1] at e; simp only at e; have := h2 _ _ b1; have := (needP_shr e).1; omega
    | none =>
      rw [a2] at e
      simp only at e
      cases a3 : takeP kDELAY s with
      | some r =>
        rw [a3] at e
        simp only [delP] at e
        have := takeP_len a3
        cases b1 : ex r with
        | none => rw [b1] at e; cases e
        | some u =>
          rw [b1] at e
          simp only at e
          have := h2 _ _ b1
          cases b2 : takeP kC u.2 with
          | none => rw [b2] at e; cases e
          | some v =>
            rw [b2] at e
            simp only at e
            have := takeP_len b2
            cases b3 : numP N v with
            | none => rw [b3] at e; cases e
            | some x => rw [b3] at e; simp only at e; have := numP_len b3; have := (needP_shr e).1; simp only at this; omega
      | none =>
        rw [a3] at e
        simp only at e
        cases a4 : takeP kLATCH s with
        | some r =>
          rw [a4] at e
          simp only [latP] at e
          have := takeP_len a4
          cases b1 : ex r with
          | none => rw [b1] at e; cases e
          | some u =>
            rw [b1] at e
            simp only at e
            have := h2 _ _ b1
            cases b2 : takeP kC u.2 with
            | none => rw [b2] at e; cases e
            | some v =>
              rw [b2] at e
              simp only at e
              have := takeP_len b2
              cases b3 : ex v with
              | none => rw [b3] at e; cases e
              | some x => rw [b3] at e; simp only at e; have := h2 _ _ b3; have := (needP_shr e).1; simp only at this; omega
        | none => rw [a4] at e; exact atomP_shr N s q e
theorem factorP_shr (N : Num) : ∀ n, Shr (factorP N n)
  | 0 => fun s q e => by simp [factorP] at e
  | n + 1 => by rw [factorP_succ]; exact facS_shr (factorP_shr N n) (chainP_shr (chainP_shr (factorP_shr N n)))
theorem termP_shr (N : Num) (n : Nat) : Shr (termP N n) := chainP_shr (factorP_shr N n)

/-! ### ends -/
theorem stopF_w {s : Bs} (h : stopF s) : s.takeWhile wch = [] ∧ s.takeWhile dch = [] ∧ takeP kGT s = none ∧ takeP kLT s = none := by
  rcases h with (( rfl | ⟨x, r, rfl, rfl | rfl⟩) | ⟨r, rfl⟩) | ⟨r, rfl⟩ <;> exact ⟨rfl, rfl, rfl, rfl⟩
theorem stopT_and {s : Bs} (h : stopT s) : takeP kAND s = none := by
  rcases h with ( rfl | ⟨x, r, rfl, rfl | rfl⟩) | ⟨r, rfl⟩ <;> rfl
theorem stopE_or {s : Bs} (h : stopE s) : takeP kOR s = none := by
  rcases h with rfl | ⟨x, r, rfl, rfl | rfl⟩ <;> rfl
theorem tw_app {p : UInt8 → Bool} {a rest : Bs} (ha : ∀ c ∈ a, p c = true) (hr : rest.takeWhile p = []) : (a ++ rest).takeWhile p = a ∧ (a ++ rest).dropWhile p = rest := by
  have h2 : rest.dropWhile p = rest := by have := List.takeWhile_append_dropWhile (p := p) (l := rest); rwa [hr, List.nil_append] at this
  rw [List.takeWhile_append_of_pos ha, List.dropWhile_append_of_pos ha, hr, h2]
  exact ⟨List.append_nil _, rfl⟩
theorem rnGo_w : ∀ (l : Bs) (i : Nat), rnGo i l = true → ∀ c ∈ l, wch c = true
  | [], _, _, c, hc => by simp at hc
  | x :: l, i, h, c, hc => by
    simp only [rnGo, Bool.and_eq_true] at h
    rcases List.mem_cons.1 hc with rfl | hc
    · have := h.1
      unfold rnCh at this
      unfold wch
      rw [decide_eq_true_eq] at this ⊢
      omega
    · exact rnGo_w l _ h.2 c hc
theorem rname_w {s : ByteArray} (h : rnameB s = true) : ∀ c ∈ bbs s, wch c = true := by
  unfold rnameB at h
  rw [Bool.and_eq_true, Bool.and_eq_true] at h
  exact rnGo_w _ 0 h.1.1
theorem name_at {nm : ByteArray} (h : rnameB nm = true) {rest : Bs} (hr : rest.takeWhile wch = []) : nameP (bbs nm ++ rest) = some (nm, rest) := by
  obtain ⟨h1, h2⟩ := tw_app (rname_w h) hr
  unfold nameP
  rw [h1, h2, bsB_bbs, if_pos h]
theorem kw_none {nm : ByteArray} (h : rnameB nm = true) {rest : Bs} (hr : rest.takeWhile wch = []) : takeP kNOT (bbs nm ++ rest) = none ∧ takeP kL (bbs nm ++ rest) = none ∧ takeP kDELAY (bbs nm ++ rest) = none ∧ takeP kLATCH (bbs nm ++ rest) = none := by
  have h1 := (tw_app (rname_w h) hr).1
  have key : ∀ (k : Bs), rnameB (bsB k) = false → ∀ w : Bs, (∀ r, (w ++ r).takeWhile wch = k) → takeP w (bbs nm ++ rest) = none := fun k hk w hw => takeP_none fun r e => by
    rw [e, hw r] at h1
    rw [h1, bsB_bbs, h] at hk
    cases hk
  exact ⟨key [78, 79, 84] (by decide +kernel) kNOT (fun r => rfl), key [] (by decide +kernel) kL (fun r => rfl), key [68, 69, 76, 65, 89] (by decide +kernel) kDELAY (fun r => rfl), key [76, 65, 84, 67, 72] (by decide +kernel) kLATCH (fun r => rfl)⟩
theorem num_at (N : Num) {v : Int} (h0 : 0 ≤ v) (h1 : v ≤ 1000000) {rest : Bs} (hr : rest.takeWhile dch = []) : numP N (N.dg v ++ rest) = some (v, rest) := by
  obtain ⟨d1, d2, d3, d4⟩ := N.dig v h0 h1
  obtain ⟨h2, h3⟩ := tw_app d1 hr
  unfold numP
  rw [h2, h3, d4, if_pos ⟨d3, fun e => by rw [e] at d2; simp at d2, rfl⟩]
theorem chain_stop {w : Bs} {op : Int} {p : Part} {s : Bs} (h : takeP w s = none) : ∀ (k : Nat) (l : List Nd), chainGo w op p k l s = some (l, s)
  | 0, l => rfl
  | k + 1, l => by simp only [chainGo, h]
theorem chain_more {w : Bs} {op : Int} {p : Part} (hs : Shr p) (hw : 1 ≤ w.length) {s r : Bs} {m : List Nd} (h : p s = some (m, r)) (l : List Nd) : chainGo w op p (w ++ s).length l (w ++ s) = chainGo w op p r.length (⟨op, ⟨#[]⟩, 0⟩ :: (l ++ m)) r := by
  have hl := hs _ _ h
  simp only at hl
  obtain ⟨k, hk⟩ : ∃ k, (w ++ s).length = k + 1 := ⟨(w ++ s).length - 1, by rw [List.length_append]; omega⟩
  rw [hk]
  simp only [chainGo, takeP_app, h]
  rw [List.length_append] at hk
  exact chain_fuel hs hw _ _ _ _ (by omega) (Nat.le_refl _)

/-! ### the law -/
structure PL (N : Num) (t : Tr) : Prop where
  F : ∀ n rest, (t.fac N).length ≤ n → stopF rest → factorP N n (t.fac N ++ rest) = some (t.flat, rest)
  T : ∀ n rest, (t.term N).length ≤ n → stopF rest → termP N n (t.term N ++ rest) = chainGo kAND 4 (factorP N n) rest.length t.flat rest
  E : ∀ n rest, (t.pr N).length ≤ n → stopT rest → exprP N n (t.pr N ++ rest) = chainGo kOR 5 (termP N n) rest.length t.flat rest
variable {N : Num}
theorem T_of_F {t : Tr} (e : t.term N = t.fac N) (F : ∀ n rest, (t.fac N).length ≤ n → stopF rest → factorP N n (t.fac N ++ rest) = some (t.flat, rest)) : ∀ n rest, (t.term N).length ≤ n → stopF rest → termP N n (t.term N ++ rest) = chainGo kAND 4 (factorP N n) rest.length t.flat rest := fun n rest hn hr => by
  rw [e] at hn ⊢
  unfold termP chainP
  rw [F n rest hn hr]
theorem E_of_T {t : Tr} (e : t.pr N = t.term N) (T : ∀ n rest, (t.term N).length ≤ n → stopF rest → termP N n (t.term N ++ rest) = chainGo kAND 4 (factorP N n) rest.length t.flat rest) : ∀ n rest, (t.pr N).length ≤ n → stopT rest → exprP N n (t.pr N ++ rest) = chainGo kOR 5 (termP N n) rest.length t.flat rest := fun n rest hn hr => by
  rw [e] at hn ⊢
  unfold exprP chainP
  rw [T n rest hn (.inl hr), chain_stop (stopT_and hr)]
theorem E_end {t : Tr} {n : Nat} {rest : Bs} (E : ∀ n rest, (t.pr N).length ≤ n → stopT rest → exprP N n (t.pr N ++ rest) = chainGo kOR 5 (termP N n) rest.length t.flat rest) (hn : (t.pr N).length ≤ n) (hr : stopE rest) : exprP N n (t.pr N ++ rest) = some (t.flat, rest) := by
  rw [E n rest hn (.inl hr), chain_stop (stopE_or hr)]
theorem F_of_E {t : Tr} (e : t.isAO = true) (E : ∀ n rest, (t.pr N).length ≤ n → stopT rest → exprP N n (t.pr N ++ rest) = chainGo kOR 5 (termP N n) rest.length t.flat rest) : ∀ n rest, (t.fac N).length ≤ n → stopF rest → factorP N n (t.fac N ++ rest) = some (t.flat, rest) := fun n rest hn hr => by
  have hf : t.fac N = kL ++ (t.pr N ++ kR) := by unfold Tr.fac paren; rw [e]; rfl
  rw [hf] at hn ⊢
  simp only [List.length_append, kL, kR, List.length_cons, List.length_nil] at hn
  obtain ⟨m, rfl⟩ : ∃ m, n = m + 1 := ⟨n - 1, by omega⟩
  rw [factorP_succ]
  unfold facS
  rw [show kL ++ (t.pr N ++ kR) ++ rest = 40 :: (t.pr N ++ (41 :: rest)) from by simp [kL, kR]]
  rw [show takeP kNOT (40 :: (t.pr N ++ (41 :: rest))) = none from rfl]
  simp only
  rw [show takeP kL (40 :: (t.pr N ++ (41 :: rest))) = some (t.pr N ++ (41 :: rest)) from rfl]
  simp only [parP]
  rw [E_end E (by omega) (.inr ⟨41, rest, rfl, .inl rfl⟩)]
  simp only [needP]
  rw [show takeP kR (41 :: rest) = some rest from rfl]
theorem PL.atom {t : Tr} (h1 : t.isAO = false) (h2 : t.isOr = false) (F : ∀ n rest, (t.pr N).length ≤ n → stopF rest → factorP N n (t.pr N ++ rest) = some (t.flat, rest)) : PL N t := by
  have e1 : t.fac N = t.pr N := by unfold Tr.fac paren; rw [h1]; rfl
  have e2 : t.term N = t.pr N := by unfold Tr.term paren; rw [h2]; rfl
  have F' : ∀ n rest, (t.fac N).length ≤ n → stopF rest → factorP N n (t.fac N ++ rest) = some (t.flat, rest) := by rw [e1]; exact F
  have T' := T_of_F (e2.trans e1.symm) F'
  exact ⟨F', T', E_of_T e2.symm T'⟩
theorem facS_atom {fac ex : Part} {nm : ByteArray} (h : rnameB nm = true) {rest : Bs} (hr : rest.takeWhile wch = []) : facS N fac ex (bbs nm ++ rest) = atomP N (bbs nm ++ rest) := by
  obtain ⟨h1, h2, h3, h4⟩ := kw_none h hr
  unfold facS
  rw [h1, h2, h3, h4]
theorem name_pos {nm : ByteArray} (h : rnameB nm = true) : 1 ≤ (bbs nm).length := by
  unfold rnameB at h
  rw [Bool.and_eq_true, Bool.and_eq_true, decide_eq_true_eq] at h
  exact h.1.2.1
theorem pl (N : Num) : ∀ t : Tr, t.Ok → PL N t
  | .flag s, h => PL.atom rfl rfl fun n rest hn hr => by
    have hp := name_pos h
    obtain ⟨m, rfl⟩ : ∃ m, n = m + 1 := ⟨n - 1, by simp only [Tr.pr] at hn; omega⟩
    obtain ⟨r1, r2, r3, r4⟩ := stopF_w hr
    rw [factorP_succ]
    simp only [Tr.pr]
    rw [facS_atom h r1]
    unfold atomP
    rw [name_at h r1]
    simp only [r3, r4, Tr.flat]
  | .gt s v, h => PL.atom rfl rfl fun n rest hn hr => by
    have hp := name_pos h.1
    obtain ⟨m, rfl⟩ : ∃ m, n = m + 1 := ⟨n - 1, by simp only [Tr.pr, List.length_append] at hn; omega⟩
    obtain ⟨r1, r2, r3, r4⟩ := stopF_w hr
    have hk : (kGT ++ (N.dg v ++ rest)).takeWhile wch = [] := rfl
    rw [factorP_succ]
    simp only [Tr.pr, List.append_assoc]
    rw [facS_atom h.1 hk]
    unfold atomP
    rw [name_at h.1 hk]
    simp only [takeP_app, num_at N h.2.1 h.2.2 r2, Tr.flat]
  | .lt s v, h => PL.atom rfl rfl fun n rest hn hr => by
    have hp := name_pos h.1
    obtain ⟨m, rfl⟩ : ∃ m, n = m + 1 := ⟨n - 1, by simp only [Tr.pr, List.length_append] at hn; omega⟩
    obtain ⟨r1, r2, r3, r4⟩ := stopF_w hr
    have hk : (kLT ++ (N.dg v ++ rest)).takeWhile wch = [] := rfl
    have hg : takeP kGT (kLT ++ (N.dg v ++ rest)) = none := rfl
    rw [factorP_succ]
    simp only [Tr.pr, List.append_assoc]
    rw [facS_atom h.1 hk]
    unfold atomP
    rw [name_at h.1 hk]
    simp only [hg, takeP_app, num_at N h.2.1 h.2.2 r2, Tr.flat]
  | .not a, h => PL.atom rfl rfl fun n rest hn hr => by
    have ih := pl N a h
    simp only [Tr.pr] at hn ⊢
    rw [show paren a.isAO (a.pr N) = a.fac N from rfl] at hn ⊢
    simp only [List.length_append, kNOT, List.length_cons, List.length_nil] at hn
    obtain ⟨m, rfl⟩ : ∃ m, n = m + 1 := ⟨n - 1, by omega⟩
    rw [factorP_succ, List.append_assoc]
    unfold facS
    rw [takeP_app]
    simp only [notP]
    rw [ih.F m rest (by omega) hr]
    rfl
  | .and a b, h => by
    have ia := pl N a h.1
    have ib := pl N b h.2
    have e : (Tr.and a b).term N = (Tr.and a b).pr N := rfl
    have hpr : (Tr.and a b).pr N = a.term N ++ (kAND ++ b.fac N) := rfl
    have T' : ∀ n rest, ((Tr.and a b).term N).length ≤ n → stopF rest → termP N n ((Tr.and a b).term N ++ rest) = chainGo kAND 4 (factorP N n) rest.length (Tr.and a b).flat rest := fun n rest hn hr => by
      rw [e, hpr] at hn ⊢
      simp only [List.length_append] at hn
      rw [List.append_assoc, List.append_assoc, ia.T n _ (by omega) (.inr ⟨_, rfl⟩), chain_more (factorP_shr N n) (by decide) (ib.F n rest (by omega) hr)]
      rfl
    have E' := E_of_T e.symm T'
    exact ⟨F_of_E rfl E', T', E'⟩
  | .or a b, h => by
    have ia := pl N a h.1
    have ib := pl N b h.2
    have hpr : (Tr.or a b).pr N = a.pr N ++ (kOR ++ b.term N) := rfl
    have E' : ∀ n rest, ((Tr.or a b).pr N).length ≤ n → stopT rest → exprP N n ((Tr.or a b).pr N ++ rest) = chainGo kOR 5 (termP N n) rest.length (Tr.or a b).flat rest := fun n rest hn hr => by
      rw [hpr] at hn ⊢
      simp only [List.length_append] at hn
      rw [List.append_assoc, List.append_assoc, ia.E n _ (by omega) (.inr ⟨_, rfl⟩), chain_more (termP_shr N n) (by decide) (m := b.flat) (r := rest) (by rw [ib.T n rest (by omega) (.inl hr), chain_stop (stopT_and hr)])]
      rfl
    have F' := F_of_E rfl E'
    exact ⟨F', T_of_F rfl F', E'⟩
  | .delay v a, h => PL.atom rfl rfl fun n rest hn hr => by
    have ih := pl N a h.2
    simp only [Tr.pr] at hn ⊢
    simp only [List.length_append, kDELAY, kC, kR, List.length_cons, List.length_nil] at hn
    obtain ⟨m, rfl⟩ : ∃ m, n = m + 1 := ⟨n - 1, by omega⟩
    rw [factorP_succ]
    simp only [List.append_assoc]
    unfold facS
    rw [show takeP kNOT (kDELAY ++ (a.pr N ++ (kC ++ (N.dg v ++ (kR ++ rest))))) = none from rfl, show takeP kL (kDELAY ++ (a.pr N ++ (kC ++ (N.dg v ++ (kR ++ rest))))) = none from rfl, takeP_app]
    simp only [delP]
    rw [E_end (rest := kC ++ (N.dg v ++ (kR ++ rest))) ih.E (by omega) (.inr ⟨44, _, rfl, .inr rfl⟩)]
    simp only [takeP_app]
    rw [num_at N h.1.1 h.1.2 (rest := kR ++ rest) rfl]
    simp only [needP, takeP_app]
    rfl
  | .latch a b, h => PL.atom rfl rfl fun n rest hn hr => by
    have ia := pl N a h.1
    have ib := pl N b h.2
    simp only [Tr.pr] at hn ⊢
    simp only [List.length_append, kLATCH, kC, kR, List.length_cons, List.length_nil] at hn
    obtain ⟨m, rfl⟩ : ∃ m, n = m + 1 := ⟨n - 1, by omega⟩
    rw [factorP_succ]
    simp only [List.append_assoc]
    unfold facS
    rw [show takeP kNOT (kLATCH ++ (a.pr N ++ (kC ++ (b.pr N ++ (kR ++ rest))))) = none from rfl, show takeP kL (kLATCH ++ (a.pr N ++ (kC ++ (b.pr N ++ (kR ++ rest))))) = none from rfl, show takeP kDELAY (kLATCH ++ (a.pr N ++ (kC ++ (b.pr N ++ (kR ++ rest))))) = none from rfl, takeP_app]
    simp only [latP]
    rw [E_end (rest := kC ++ (b.pr N ++ (kR ++ rest))) ia.E (by omega) (.inr ⟨44, _, rfl, .inr rfl⟩)]
    simp only [takeP_app]
    rw [E_end (rest := kR ++ rest) ib.E (by omega) (.inr ⟨41, _, rfl, .inl rfl⟩)]
    simp only [needP, takeP_app]
    rfl
end Go.Proofs.YtaanoljfhnfjoaaGreatDoor
