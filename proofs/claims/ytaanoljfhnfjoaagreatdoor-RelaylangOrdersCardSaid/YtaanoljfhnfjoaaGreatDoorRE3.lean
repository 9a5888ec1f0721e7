/- Whole programs: printed and read. No program in this text. -/
import Derived.Test.YtaanoljfhnfjoaaGreatDoorREJ
namespace Go.Proofs.YtaanoljfhnfjoaaGreatDoor
set_option linter.unusedVariables false
set_option linter.unusedSimpArgs false

def kEQ : Bs := [32, 61, 32]
def lineT (N : Num) (nm : ByteArray) (t : Tr) : Bs := bbs nm ++ (kEQ ++ t.pr N)
/-- trees of a program's expressions -/
def Trees : List Rl → List Tr → Prop
  | [], [] => True
  | r :: p, t :: ts => r.expr = t.flat ∧ Trees p ts
  | _, _ => False
def linesT (N : Num) : List Rl → List Tr → List Bs
  | r :: p, t :: ts => lineT N r.name t :: linesT N p ts
  | _, _ => []
def textT (N : Num) (p : List Rl) (ts : List Tr) : Bs := (linesT N p ts).flatMap fun s => s ++ [10]
def ruleP (N : Num) (s : Bs) : Option Rl :=
  match nameP s with
  | none => none
  | some q =>
    match takeP kEQ q.2 with
    | none => none
    | some r =>
      match exprP N 9000 r with
      | none => none
      | some u => if u.2 = [] then some ⟨q.1, u.1⟩ else none
structure Pres where
  rules : List Rl
  line : Int
  err : Int
def linesP (N : Num) : List ByteArray → Nat → List Rl → Pres
  | [], _, acc => ⟨acc, 0, 0⟩
  | s :: t, k, acc =>
    match ruleP N (bbs s) with
    | none => ⟨[], k + 1, 5⟩
    | some r => if 64 < r.expr.length then ⟨[], k + 1, 2⟩ else linesP N t (k + 1) (acc ++ [r])
def endsNl (s : Bs) : Bool := decide (s.getLast? = some 10)
def trimNl (s : Bs) : Bs := if endsNl s then s.dropLast else s
def linesOf (s : ByteArray) : List ByteArray := spl 10 (bsB (trimNl (bbs s)))
def parseT (N : Num) (s : ByteArray) : Pres :=
  if 8192 < s.size then ⟨[], 0, 2⟩
  else if s.size = 0 then ⟨[], 0, 0⟩
  else if endsNl (bbs s) = false then ⟨[], (linesOf s).length, 5⟩
  else if 16 < (linesOf s).length then ⟨[], 0, 2⟩
  else if (linesP N (linesOf s) 0 []).err ≠ 0 then linesP N (linesOf s) 0 []
  else if ckR (linesP N (linesOf s) 0 []).rules ≠ 0 then ⟨[], 0, ckR (linesP N (linesOf s) 0 []).rules⟩
  else linesP N (linesOf s) 0 []

/-! ### reading a printed line -/
theorem stopF_nil : stopF [] := .inl (.inl (.inl rfl))
theorem ruleP_line (N : Num) {r : Rl} {t : Tr} (hn : rnameB r.name = true) (ht : r.expr = t.flat) (ok : t.Ok) (hl : (lineT N r.name t).length ≤ 9000) : ruleP N (lineT N r.name t) = some r := by
  unfold lineT at hl ⊢
  simp only [List.length_append] at hl
  unfold ruleP
  rw [name_at hn (show (kEQ ++ t.pr N).takeWhile wch = [] from rfl)]
  simp only [takeP_app]
  have := E_end (n := 9000) (rest := []) (pl N t ok).E (by omega) (.inl rfl)
  rw [List.append_nil] at this
  rw [this]
  simp only [if_true]
  rw [← ht]
/-- no line break inside -/
theorem dg_nl (N : Num) {v : Int} (h0 : 0 ≤ v) (h1 : v ≤ 1000000) : (10 : UInt8) ∉ N.dg v := fun h => by
  have := (N.dig v h0 h1).1 _ h
  exact absurd this (by decide)
theorem name_nl {nm : ByteArray} (h : rnameB nm = true) : (10 : UInt8) ∉ bbs nm := fun hm => absurd (rname_w h _ hm) (by decide)
theorem paren_nl {b : Bool} {s : Bs} (h : (10 : UInt8) ∉ s) : (10 : UInt8) ∉ paren b s := by
  cases b
  · exact h
  · intro hm
    simp only [paren, if_true, kL, kR, List.mem_append, List.mem_cons, List.not_mem_nil, or_false] at hm
    rcases hm with hm | hm | hm
    · exact absurd hm (by decide)
    · exact h hm
    · exact absurd hm (by decide)
theorem app_nl {a b : Bs} (ha : (10 : UInt8) ∉ a) (hb : (10 : UInt8) ∉ b) : (10 : UInt8) ∉ a ++ b := fun h => (List.mem_append.1 h).elim ha hb
theorem pr_nl (N : Num) : ∀ t : Tr, t.Ok → (10 : UInt8) ∉ t.pr N
  | .flag s, h => name_nl h
  | .gt s v, h => app_nl (name_nl h.1) (app_nl (by decide) (dg_nl N h.2.1 h.2.2))
  | .lt s v, h => app_nl (name_nl h.1) (app_nl (by decide) (dg_nl N h.2.1 h.2.2))
  | .not a, h => app_nl (by decide) (paren_nl (pr_nl N a h))
  | .and a b, h => app_nl (paren_nl (pr_nl N a h.1)) (app_nl (by decide) (paren_nl (pr_nl N b h.2)))
  | .or a b, h => app_nl (pr_nl N a h.1) (app_nl (by decide) (paren_nl (pr_nl N b h.2)))
  | .delay v a, h => app_nl (by decide) (app_nl (pr_nl N a h.2) (app_nl (by decide) (app_nl (dg_nl N h.1.1 h.1.2) (by decide))))
  | .latch a b, h => app_nl (by decide) (app_nl (pr_nl N a h.1) (app_nl (by decide) (app_nl (pr_nl N b h.2) (by decide))))
theorem line_nl (N : Num) {nm : ByteArray} {t : Tr} (hn : rnameB nm = true) (ok : t.Ok) : (10 : UInt8) ∉ lineT N nm t := app_nl (name_nl hn) (app_nl (by decide) (pr_nl N t ok))
def AllOk (p : List Rl) (ts : List Tr) : Prop := Trees p ts ∧ (∀ r ∈ p, rnameB r.name = true ∧ r.expr.length ≤ 64) ∧ ∀ t ∈ ts, t.Ok
theorem trees_len : ∀ {p : List Rl} {ts : List Tr}, Trees p ts → ∀ N : Num, (linesT N p ts).length = p.length
  | [], [], _, _ => rfl
  | r :: p, t :: ts, h, N => by simp only [linesT, List.length_cons]; rw [trees_len h.2 N]
  | [], _ :: _, h, _ => by cases h
  | _ :: _, [], h, _ => by cases h
theorem text_len (N : Num) (p : List Rl) (ts : List Tr) : ∀ s ∈ linesT N p ts, s.length + 1 ≤ (textT N p ts).length := fun s hs => by
  unfold textT
  obtain ⟨a, b, e⟩ := List.append_of_mem hs
  rw [e]
  simp only [List.flatMap_append, List.flatMap_cons, List.length_append, List.length_cons, List.length_nil]
  omega
theorem linesP_ok (N : Num) : ∀ (p : List Rl) (ts : List Tr) (k : Nat) (acc : List Rl), AllOk p ts → (∀ s ∈ linesT N p ts, s.length ≤ 9000) → linesP N ((linesT N p ts).map bsB) k acc = ⟨acc ++ p, 0, 0⟩
  | [], [], k, acc, _, _ => by simp [linesT, linesP]
  | r :: p, t :: ts, k, acc, h, hl => by
    obtain ⟨⟨h1, h2⟩, h3, h4⟩ := h
    obtain ⟨k1, k2⟩ := h3 r (by simp)
    simp only [linesT, List.map_cons, linesP, bbs_bsB]
    rw [ruleP_line N k1 h1 (h4 t (by simp)) (hl _ (by simp [linesT]))]
    simp only
    rw [if_neg (by omega), linesP_ok N p ts (k + 1) (acc ++ [r]) ⟨h2, fun x hx => h3 x (by simp [hx]), fun x hx => h4 x (by simp [hx])⟩ (fun s hs => hl s (by simp [linesT, hs]))]
    rw [List.append_assoc]
    rfl
  | [], _ :: _, _, _, h, _ => by cases h.1
  | _ :: _, [], _, _, h, _ => by cases h.1
theorem lines_nl (N : Num) : ∀ (p : List Rl) (ts : List Tr), AllOk p ts → ∀ s ∈ linesT N p ts, (10 : UInt8) ∉ s
  | [], [], _, s, hs => by simp [linesT] at hs
  | r :: p, t :: ts, h, s, hs => by
    simp only [linesT, List.mem_cons] at hs
    rcases hs with rfl | hs
    · exact line_nl N (h.2.1 r (by simp)).1 (h.2.2 t (by simp))
    · exact lines_nl N p ts ⟨h.1.2, fun x hx => h.2.1 x (by simp [hx]), fun x hx => h.2.2 x (by simp [hx])⟩ s hs
  | [], _ :: _, h, _, _ => by cases h.1
  | _ :: _, [], h, _, _ => by cases h.1
theorem flat_jn (c : UInt8) : ∀ (l : List Bs), l ≠ [] → (l.flatMap fun s => s ++ [c]) = jn c l ++ [c]
  | [], h => absurd rfl h
  | [s], _ => by simp [jn]
  | s :: q :: l, _ => by
    rw [List.flatMap_cons, flat_jn c (q :: l) (by simp), jn_cons c s (by simp)]
    simp
theorem allOk_of {p : List Rl} {ts : List Tr} (h : ckR p = 0) (ht : Trees p ts) : AllOk p ts := by
  have hok := ckR_ok h
  refine ⟨ht, fun r hr => ?_, ?_⟩
  · obtain ⟨i, hi⟩ := List.mem_iff_getElem?.1 hr
    exact ⟨(hok.rule i r hi).name, (hok.rule i r hi).len⟩
  · have key : ∀ (q : List Rl) (us : List Tr), Trees q us → (∀ r ∈ q, ∀ x ∈ r.expr, nodeCk x = 0) → ∀ t ∈ us, t.Ok := by
      intro q
      induction q with
      | nil => intro us hu _ t hm; cases us with
        | nil => simp at hm
        | cons a b => cases hu
      | cons r q ih =>
        intro us hu hc t hm
        cases us with
        | nil => cases hu
        | cons a b =>
          rcases List.mem_cons.1 hm with rfl | hm
          · exact ok_of_ck _ (by rw [← hu.1]; exact hc r (by simp))
          · exact ih b hu.2 (fun x hx => hc x (by simp [hx])) t hm
    exact key p ts ht fun r hr x hx => by
      obtain ⟨i, hi⟩ := List.mem_iff_getElem?.1 hr
      exact (hok.rule i r hi).nodes x hx
/-- the law RelaylangPrints -/
theorem prints_law (N : Num) {p : List Rl} {ts : List Tr} (h : ckR p = 0) (ht : Trees p ts) (hl : (textT N p ts).length ≤ 8192) : parseT N (bsB (textT N p ts)) = ⟨p, 0, 0⟩ := by
  have hall := allOk_of h ht
  have hsz : (bsB (textT N p ts)).size = (textT N p ts).length := rfl
  unfold parseT
  rw [hsz, if_neg (by omega), bbs_bsB]
  cases p with
  | nil =>
    cases ts with
    | nil => rfl
    | cons a b => cases ht
  | cons r p =>
    have hne : linesT N (r :: p) ts ≠ [] := fun e => by have := trees_len ht N; rw [e] at this; simp at this
    have htx : textT N (r :: p) ts = jn 10 (linesT N (r :: p) ts) ++ [10] := flat_jn 10 _ hne
    have hend : endsNl (textT N (r :: p) ts) = true := by rw [htx]; unfold endsNl; rw [List.getLast?_append]; rfl
    have htr : trimNl (textT N (r :: p) ts) = jn 10 (linesT N (r :: p) ts) := by
      unfold trimNl
      rw [if_pos hend, htx, List.dropLast_concat]
    have hlo : linesOf (bsB (textT N (r :: p) ts)) = (linesT N (r :: p) ts).map bsB := by
      unfold linesOf
      rw [bbs_bsB, htr]
      refine spl_uniq (by simpa using hne) ?_ (fun q hq => ?_)
      · rw [List.map_map]
        show jn 10 ((linesT N (r :: p) ts).map fun s => s) = _
        rw [List.map_id']
        rfl
      · obtain ⟨s, hs, rfl⟩ := List.mem_map.1 hq
        exact lines_nl N _ _ hall s hs
    have hln : (linesT N (r :: p) ts).length ≤ 16 := by rw [trees_len ht N]; exact (ckR_ok h).len
    have hp : linesP N ((linesT N (r :: p) ts).map bsB) 0 [] = ⟨r :: p, 0, 0⟩ := by
      rw [linesP_ok N _ _ 0 [] hall (fun s hs => by have := text_len N _ _ s hs; omega)]
      rfl
    rw [if_neg (by rw [htx]; simp), hend, if_neg (by simp), hlo, if_neg (by rw [List.length_map]; omega), hp]
    simp only [ne_eq, not_true_eq_false, if_false, h]
end Go.Proofs.YtaanoljfhnfjoaaGreatDoor
