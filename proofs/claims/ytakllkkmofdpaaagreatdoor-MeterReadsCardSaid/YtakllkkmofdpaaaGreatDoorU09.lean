import Derived.Test.YtakllkkmofdpaaaGreatDoorU06
import Derived.Test.YtakllkkmofdpaaaGreatDoorU07
import Derived.Lib.ParseIntB
set_option linter.unusedVariables false
set_option linter.unusedSimpArgs false
namespace Go.Proofs.YtakllkkmofdpaaaGreatDoor
section
def pv : List Nat → Nat
 | [] => 0
 | x :: r => x + 1000000000 * pv r
def PsOk (ps : List Nat) : Prop := ∀ x ∈ ps, x < 1000000000
theorem pv_snoc : ∀ (ps : List Nat) (r : Nat), pv (ps ++ [r]) = pv ps + r * 1000000000 ^ ps.length
 | [], r => by simp [pv]
 | x :: t, r => by
  rw [List.cons_append, pv, pv_snoc t r, pv, List.length_cons, Nat.pow_succ]
  grind
theorem psOk_snoc {ps : List Nat} {r : Nat} (h : PsOk ps) (hr : r < 1000000000) : PsOk (ps ++ [r]) := fun x hx => (List.mem_append.1 hx).elim (h x) fun h => by rw [List.mem_singleton.1 h]; exact hr
theorem pv_drop {ps : List Nat} {k x : Nat} (h : ps[k]? = some x) : pv (ps.drop k) = x + 1000000000 * pv (ps.drop (k + 1)) := by
 obtain ⟨hl, he⟩ := List.getElem?_eq_some_iff.1 h
 rw [List.drop_eq_getElem_cons hl, he, pv]
def PsTop (ps : List Nat) : Prop := ∀ x, ps.getLast? = some x → 0 < x
theorem pv_pos : ∀ {ps : List Nat}, PsTop ps → ps ≠ [] → 0 < pv ps
 | [x], h, _ => by
  have := h x rfl
  simp only [pv]; omega
 | x :: y :: r, h, _ => by
  have := pv_pos (ps := y :: r) (fun z hz => h z (by rw [List.getLast?_cons_cons]; exact hz)) (by simp)
  rw [pv]; omega
theorem psTop_drop {ps : List Nat} (h : PsTop ps) {k : Nat} (hk : k < ps.length) : 0 < pv (ps.drop k) := by
 refine pv_pos (fun x hx => h x ?_) (fun e => by have := congrArg List.length e; rw [List.length_drop] at this; simp at this; omega)
 rw [List.getLast?_drop, if_neg (by omega)] at hx
 exact hx
def Dg (ps : List Nat) (k : Nat) : List UInt8 := if k < ps.length then Lib.decDigits (pv (ps.drop k)) else []
theorem dg_end (ps : List Nat) : Dg ps ps.length = [] := by unfold Dg; rw [if_neg (Nat.lt_irrefl _)]
theorem dg_top {ps : List Nat} {k x : Nat} (h : ps[k]? = some x) (hk : k + 1 = ps.length) : Dg ps k = Lib.decDigits x := by
 unfold Dg
 rw [if_pos (by omega), pv_drop h, List.drop_eq_nil_of_le (by omega), pv, Nat.mul_zero, Nat.add_zero]
theorem dg_low {ps : List Nat} {k x : Nat} (h : ps[k]? = some x) (hk : k + 1 < ps.length) (hok : PsOk ps) (ht : PsTop ps) : Dg ps k = Dg ps (k + 1) ++ List.replicate (9 - (Lib.decDigits x).length) 48 ++ Lib.decDigits x := by
 unfold Dg
 have hx := hok x (List.mem_of_getElem? h)
 have hp := psTop_drop ht hk
 rw [if_pos (by omega), if_pos hk, pv_drop h, Nat.add_comm x, Nat.mul_comm, show 1000000000 = 10 ^ 9 from rfl, dec_split 9 _ x hp hx, fixd_pad 9 x (by decide) hx, List.append_assoc]
theorem dg_all {ps : List Nat} (h : ps ≠ []) : Dg ps 0 = Lib.decDigits (pv ps) := by
 unfold Dg
 rw [if_pos (List.length_pos_iff.2 h), List.drop_zero]
theorem dg_len {ps : List Nat} {k x : Nat} (h : ps[k]? = some x) (hok : PsOk ps) : 1 ≤ (Lib.decDigits x).length ∧ (Lib.decDigits x).length ≤ 9 :=
 ⟨dec_len_pos x, dec_len9 (by decide) (hok x (List.mem_of_getElem? h))⟩
theorem pow_mono10 {a b : Nat} (h : a ≤ b) : 10 ^ a ≤ 10 ^ b := Nat.pow_le_pow_right (by decide) h
theorem bb_lo : 10 ^ 2000 ≤ BB 210 := by unfold BB; decide +kernel
theorem bb_hi : BB 210 ≤ 1000000000 ^ 225 := by unfold BB; decide +kernel
theorem many_words {n : Nat} (h : 210 < dlen n) : 2000 < ndg n := by
 have h0 : n ≠ 0 := fun e => by rw [e, dlen_zero] at h; omega
 have h1 := le_dlen h0
 have h2 : BB 210 ≤ n := Nat.le_trans (BB_le (by omega)) h1
 refine Nat.lt_of_not_le fun hle => ?_
 have h3 := lt_ndg n
 have h4 := pow_mono10 hle
 have h5 := bb_lo
 omega
theorem few_parts {v g L : Nat} (hv : dlen v ≤ 210) (hg : 0 < g) (h : g * 1000000000 ^ L ≤ v) : L < 225 := by
 have h1 := lt_dlen v
 have h2 : v < 1000000000 ^ 225 := Nat.lt_of_lt_of_le h1 (Nat.le_trans (BB_le hv) bb_hi)
 have h3 : 1 * 1000000000 ^ L ≤ g * 1000000000 ^ L := Nat.mul_le_mul_right _ hg
 exact (Nat.pow_lt_pow_iff_right (a := 1000000000) (by decide)).1 (by omega)
def textL (z : Int) : List UInt8 := (if z < 0 then [45] else []) ++ Lib.decDigits z.natAbs
end
section
def AllDg (l : List UInt8) : Prop := ∀ c ∈ l, IsDg c
theorem AllDg.take {l : List UInt8} (h : AllDg l) (n : Nat) : AllDg (l.take n) := fun c hc => h c (List.mem_of_mem_take hc)
theorem AllDg.drop {l : List UInt8} (h : AllDg l) (n : Nat) : AllDg (l.drop n) := fun c hc => h c (List.mem_of_mem_drop hc)
theorem puM : ∀ (l : List UInt8) (mx acc : Nat), AllDg l → mx ≤ 4294967295 → dvg acc l ≤ mx → Lib.parseUintM mx acc l = .ok (dvg acc l)
 | [], mx, acc, _, _, _ => rfl
 | c :: r, mx, acc, h, h4, hm => by
  have hc := h c (List.mem_cons_self ..)
  have hr : AllDg r := fun x hx => h x (List.mem_cons_of_mem _ hx)
  have e : dvg acc (c :: r) = dvg (acc * 10 + (c.toNat - 48)) r := rfl
  rw [e] at hm ⊢
  have hle : acc * 10 + (c.toNat - 48) ≤ dvg (acc * 10 + (c.toNat - 48)) r := by
   rw [dvg_acc]
   have : 1 ≤ 10 ^ r.length := Nat.one_le_pow _ _ (by decide)
   have := Nat.mul_le_mul_left (acc * 10 + (c.toNat - 48)) this
   omega
  have ih := puM r mx _ hr h4 hm
  unfold Lib.parseUintM
  rw [if_pos (show 48 ≤ c.toNat ∧ c.toNat ≤ 57 from hc), if_neg (by omega), if_neg (by omega)]
  exact ih
theorem pu32 {l : List UInt8} (h : AllDg l) (h0 : l ≠ []) (h9 : l.length ≤ 9) : Lib.parseUintB 32 l = .ok (dv l) := by
 unfold Lib.parseUintB
 rw [if_neg h0]
 refine puM l _ 0 h (by decide) ?_
 have h1 := dv_lt h
 have h2 : 10 ^ l.length ≤ 10 ^ 9 := Nat.pow_le_pow_right (by decide) h9
 show dv l ≤ _
 omega
theorem dv_part (l m : List UInt8) (h : l = [] ∨ m.length = 9) : dv (l ++ m) = dv l * 1000000000 + dv m := by
 rw [dv_append]
 rcases h with rfl | h
 ·simp [dv, dvg]
 ·rw [h]
theorem dv_dlen {l : List UInt8} (h : AllDg l) : dlen (dv l) ≤ l.length := by
 refine dlen_le (Nat.lt_of_lt_of_le (dv_lt h) ?_)
 exact Nat.pow_le_pow_left (by decide) _
end
section
open Go.ChangeShapes Go.WideShapes Go.ChangeAt Go.RowKit
section
variable {P : Program}
end
theorem own_keep {w w' : World} {base e size n : Nat} {v : Value} {xs : List Value} (h : w.ownsRow base e size v n xs) (hb : Below w.heap.size w w') : w'.ownsRow base e size v n xs := by
 refine ⟨h.1, ?_⟩
 rcases h.2 with h1 | ⟨g, cap, cur, h1, h2, h3, h4⟩
 ·exact .inl h1
 ·refine .inr ⟨g, cap, cur, h1, h2, ?_, h4⟩
  exact (hb.block g (Array.getElem?_eq_some_iff.1 h3).1).trans h3
theorem own_rd {w : World} {base e size n : Nat} {v : Value} {xs : List Value} (h : w.ownsRow base e size v n xs) : ∃ A c, v = .slice A n c ∧ Rd w w.heap.size size A n xs ∧ n ≤ c ∧ c ≤ maxLen ∧ (0 < n → ∃ b off, A = some ⟨b, off, none⟩ ∧ base ≤ b) := by
 have hl := h.1
 rcases h.2 with ⟨h1, h2⟩ | ⟨g, cap, cur, h1, h2, h3, h4, h5, h6, h7⟩
 ·subst h2
  exact ⟨none, 0, h1, ⟨hl, fun h => by omega⟩, Nat.le_refl _, by simp [maxLen], fun h => by omega⟩
 ·refine ⟨some ⟨g, 0, none⟩, cap, h1, ⟨hl, fun _ => ⟨g, 0, rfl, (Array.getElem?_eq_some_iff.1 h3).1, fun j u hu => ?_⟩⟩, h4, h5, fun _ => ⟨g, 0, rfl, h2⟩⟩
  have hb : Blk w g e cur := h3
  rw [Nat.zero_add, hb.cell j]
  rw [← h7] at hu
  have hj := (List.getElem?_eq_some_iff.1 hu).1
  rw [List.length_take] at hj
  rw [List.getElem?_take_of_lt (by omega)] at hu
  simpa using hu
end
section
open Go.ChangeShapes Go.WideShapes Go.ChangeAt Go.RowKit
def OwnS (S : Value → Prop) (w : World) (base : Nat) (e : TypeId) (size : Nat) (v : Value) (n : Nat) (xs : List Value) : Prop :=
 xs.length = n * size ∧ ((v = .slice none 0 0 ∧ n = 0) ∨ ∃ g cap cur, v = .slice (some ⟨g, 0, none⟩) n cap ∧ base ≤ g ∧ Blk w g e cur ∧ n ≤ cap ∧ cap ≤ maxLen ∧ cur.size = cap * size ∧ cur.toList.take (n * size) = xs ∧ ∀ u ∈ cur.toList, S u)
structure Keeps (S : Value → Prop) (base : Nat) (e : TypeId) (w w' : World) : Prop where
 low : Below base w w'
 size : w.heap.size ≤ w'.heap.size
 cell : ∀ p u, w.cell? p = some u → ¬ S u → w'.cell? p = some u
 blk : ∀ b t cs, Blk w b t cs → t ≠ e → Blk w' b t cs
section
variable {S : Value → Prop} {w w' : World} {base e size n : Nat} {v : Value} {xs : List Value}
theorem OwnS.own (h : OwnS S w base e size v n xs) : w.ownsRow base e size v n xs := by
 refine ⟨h.1, ?_⟩
 rcases h.2 with h1 | ⟨g, cap, cur, h1, h2, h3, h4, h5, h6, h7, _⟩
 ·exact .inl h1
 ·exact .inr ⟨g, cap, cur, h1, h2, h3, h4, h5, h6, h7⟩
theorem OwnS.keep (h : OwnS S w base e size v n xs) (hb : Below w.heap.size w w') : OwnS S w' base e size v n xs := by
 refine ⟨h.1, ?_⟩
 rcases h.2 with h1 | ⟨g, cap, cur, h1, h2, h3, h4⟩
 ·exact .inl h1
 ·exact .inr ⟨g, cap, cur, h1, h2, h3.below hb h3.lt, h4⟩
theorem ownS_none (S : Value → Prop) (w : World) (base e size : Nat) : OwnS S w base e size (.slice none 0 0) 0 [] := ⟨by simp, .inl ⟨rfl, rfl⟩⟩
theorem Keeps.old (h : ∀ i, i < w.heap.size → w'.heap[i]? = w.heap[i]?) (hs : w.heap.size ≤ w'.heap.size) (ho : w'.os = w.os) (ht : w'.tape = w.tape) (hp : w'.output = w.output) (hbs : base ≤ w.heap.size) : Keeps S base e w w' :=
 ⟨⟨ho, ht, hp, hs, fun i hi => h i (Nat.lt_of_lt_of_le hi hbs)⟩, hs, fun p u hu _ => (World.cell?_of_block (h _ (World.block_lt_of_cell? w p hu))).trans hu, fun b t cs hb _ => (h b hb.lt).trans hb⟩
theorem zero_mem {z : Array Value} {k : Nat} {u : Value} (h : u ∈ (Builtin.zeroCells z k).toList) : u ∈ z.toList := by
 unfold Builtin.zeroCells at h
 rw [Array.mem_toList_iff, Array.mem_map] at h
 obtain ⟨i, hi, rfl⟩ := h
 rw [Array.mem_range] at hi
 have hz : 0 < z.size := by
  rcases Nat.eq_zero_or_pos z.size with e | e
  ·rw [e] at hi; simp at hi
  ·exact e
 have hm : i % z.size < z.size := Nat.mod_lt _ hz
 rw [getElem!_pos z _ hm]
 exact Array.mem_toList_iff.2 (Array.getElem_mem hm)
end
section
variable {P : Program}
theorem run_append_S {S : Value → Prop} (w : World) (base : Nat) (t ty e : TypeId) (i : TypeInfo) (z : Value) (size bytes : Nat) (ht : P.underlying t = some (.slice e)) (hi : P.info? e = some i) (hz : i.zero = some z)
    (hsize : i.size = size) (hby : i.bytes = bytes) (hzs : z.cells.size = size) (hsz : 0 < size) (hzS : ∀ u ∈ z.cells.toList, S u)
    (v : Value) (n : Nat) (xs : List Value) (hown : OwnS S w base e size v n xs)
    (a : Addr) (m c : Nat) (news : List Value) (hl : news.length = m * size) (hnews : ∀ j u, news[j]? = some u → w.cell? (a.add j) = some u) (h1 : ∀ u ∈ news, u.oneCell' = true ∧ S u)
    (h63 : n + m ≤ maxLen) (hbytes : (n + m) * bytes ≤ 140737488355328) (hbase : base ≤ w.heap.size) (hm : 0 < m) :
    ∃ v' w', (Builtin.append_ #[t, t] ty #[v, .slice (some a) m c]).run P w = .ok v' w' ∧ OwnS S w' base e size v' (n + m) (xs ++ news) ∧ Keeps S base e w w' ∧ (v'.ownBlock = v.ownBlock ∨ v'.ownBlock = some w.heap.size) := by
 subst hsize
 subst hby
 have hsmall : n + m ≤ 9223372036854775807 := by simp only [maxLen] at h63; omega
 have hlen : (xs ++ news).length = (n + m) * i.size := by rw [List.length_append, hown.1, hl, Nat.add_mul]
 have fresh : ∀ (old : Nat), (∀ u ∈ xs, S u) →
     OwnS S (w.drew.alloc (.cells (xs.toArray ++ news.toArray ++ Builtin.zeroCells z.cells (grownCap w (n + m) old e - (n + m))) e)) base e i.size (.slice (some ⟨w.heap.size, 0, none⟩) (n + m) (grownCap w (n + m) old e)) (n + m) (xs ++ news) ∧
     Keeps S base e w (w.drew.alloc (.cells (xs.toArray ++ news.toArray ++ Builtin.zeroCells z.cells (grownCap w (n + m) old e - (n + m))) e)) := by
  intro old hx
  have hge := grownCap_ge w (n + m) old e
  refine ⟨⟨hlen, .inr ⟨w.heap.size, _, _, rfl, hbase, Blk.new w.drew _ _, hge, grownCap_le_maxLen w (n + m) old e h63, ?_, ?_, ?_⟩⟩, Keeps.old (fun k hk => heap_alloc_old w.drew _ hk) (by simp) rfl rfl rfl hbase⟩
  ·rw [Array.size_append, Array.size_append, List.size_toArray, List.size_toArray, size_zeroCells, hzs, hown.1, hl, ← Nat.add_mul, ← Nat.add_mul, Nat.add_sub_cancel' hge]
  ·rw [Array.toList_append, Array.toList_append, ← hlen]
   exact List.take_left
  ·intro u hu
   rw [Array.toList_append, Array.toList_append, List.mem_append, List.mem_append] at hu
   rcases hu with (hu | hu) | hu
   ·exact hx u (by simpa using hu)
   ·exact (h1 u (by simpa using hu)).2
   ·exact hzS u (zero_mem hu)
 rcases hown.2 with ⟨rfl, rfl⟩ | ⟨g, cap, cur, rfl, hbg, hg, hnc, hcm, hcs, htake, hS⟩
 ·have hx : xs = [] := List.eq_nil_of_length_eq_zero (by simpa using hown.1)
  subst hx
  have hr := run_append_nil (P := P) w t ty e i z ht hi hz a m c news hl hnews hm (by omega) (by have hb := hbytes; rw [Nat.zero_add] at hb; omega)
  obtain ⟨f1, f2⟩ := fresh 0 (by simp)
  simp only [Nat.zero_add, List.nil_append, Array.empty_append] at f1 f2 ⊢
  exact ⟨_, _, hr, f1, f2, .inr rfl⟩
 ·have hxS : ∀ u ∈ xs, S u := fun u hu => hS u (List.mem_of_mem_take (by rw [htake]; exact hu))
  by_cases hroom : n + m ≤ cap
  ·have hfit : n * i.size + news.length ≤ cur.size := by rw [hl, hcs, ← Nat.add_mul]; exact Nat.mul_le_mul_right _ hroom
   have hr := run_append_room (P := P) w t ty e i ht hi g n cap cur hg a m c news hl hnews (fun u hu => (h1 u hu).1) hroom hfit
   have hoth : ∀ k, k ≠ g → (w.setRow g (cur.toList.take (n * i.size) ++ news ++ cur.toList.drop (n * i.size + news.length)).toArray).heap[k]? = w.heap[k]? := fun k hk => setRow_other w g k _ hk
   refine ⟨_, _, hr, ⟨hlen, .inr ⟨g, cap, _, rfl, hbg, setRow_heap w g cur _ e _ hg, hroom, hcm, ?_, ?_, ?_⟩⟩, ⟨⟨rfl, rfl, rfl, by simp, fun k hk => hoth k (by omega)⟩, by simp, fun p u hu hn => ?_, fun b t' cs hb hne => ?_⟩, .inl rfl⟩
   ·rw [List.size_toArray, List.length_append, List.length_append, List.length_take, List.length_drop, Array.length_toList]
    omega
   ·rw [htake, ← hlen]
    exact List.take_left
   ·intro u hu
    rw [List.mem_append, List.mem_append] at hu
    rcases hu with (hu | hu) | hu
    ·exact hS u (List.mem_of_mem_take hu)
    ·exact (h1 u hu).2
    ·exact hS u (List.mem_of_mem_drop hu)
   ·have hpg : p.block ≠ g := by
     intro e
     obtain ⟨b, off, sp⟩ := p
     simp only at e
     subst e
     cases sp with
     | none =>
      have := hg.cell off
      rw [this] at hu
      exact hn (hS u (Array.mem_toList_iff.2 (Array.mem_of_getElem? hu)))
     | some s =>
      unfold World.cell? at hu
      rw [show w.heap[b]? = some (.cells cur _ (0, 0)) from hg] at hu
      simp at hu
    exact (World.cell?_of_block (hoth _ hpg)).trans hu
   ·have hbg' : b ≠ g := by
     rintro rfl
     have h2 : some (Obj.cells cs t' (0, 0)) = some (Obj.cells cur e (0, 0)) := hb.symm.trans hg
     injection h2 with h2
     injection h2 with _ h2
     exact hne h2
    exact (hoth b hbg').trans hb
  ·have holds : ∀ j u, xs[j]? = some u → w.cell? ((⟨g, 0, none⟩ : Addr).add j) = some u := hown.own.cells (g := g) rfl
   have hr := run_append_grow (P := P) w t ty e i z ht hi hz ⟨g, 0, none⟩ n cap xs hown.1 holds a m c news hl hnews (by omega) (by omega) (growslice_fits (by omega) hbytes)
   obtain ⟨f1, f2⟩ := fresh cap hxS
   exact ⟨_, _, hr, f1, f2, .inr rfl⟩
theorem wpList_appS {S : Value → Prop} {ops : Array Oper} {rest : List Oper} {o : Oper} {a : Act} {Q : Exit → Act → World → Prop} {w : World} {lit : Array Value} {T : TypeId} (hgd : o.guard = none) (s x : Operand) (t : TypeId)
    (ho : o.op = .call { callee := .builtin .append, args := #[s, x], argTypes := #[t, t] })
    (base : Nat) (e : TypeId) (i : TypeInfo) (z : Value) (size bytes : Nat) (ht : P.underlying t = some (.slice e)) (hi : P.info? e = some i) (hz : i.zero = some z)
    (hsize : i.size = size) (hby : i.bytes = bytes) (hzs : z.cells.size = size) (hsz : 0 < size) (hzS : ∀ u ∈ z.cells.toList, S u)
    (v : Value) (n : Nat) (xs : List Value) (hs : a.eval s = v) (hown : OwnS S w base e size v n xs)
    (hx : a.eval x = .slice (some ⟨w.heap.size, 0, none⟩) 1 1) (hl : lit.size = size) (h1 : ∀ u ∈ lit.toList, u.oneCell' = true ∧ S u)
    (h63 : n + 1 ≤ maxLen) (hbytes : (n + 1) * bytes ≤ 140737488355328) (hbase : base ≤ w.heap.size)
    (h : ∀ v' w', OwnS S w' base e size v' (n + 1) (xs ++ lit.toList) → Keeps S base e (w.alloc (.cells lit T)) w' → (v'.ownBlock = v.ownBlock ∨ v'.ownBlock = some (w.heap.size + 1)) → wpList P ops Q rest (a.put o.dst v') w') :
    wpList P ops Q (o :: rest) a (w.alloc (.cells lit T)) := by
 refine wpList_plain hgd fun K hK => ?_
 obtain ⟨v', w', hr, h2, h3, h4⟩ := run_append_S (P := P) (w.alloc (.cells lit T)) base t o.type e i z size bytes ht hi hz hsize hby hzs hsz hzS v n xs (hown.keep ((Below.refl _ _).alloc (Nat.le_refl _) _)) ⟨w.heap.size, 0, none⟩ 1 1 lit.toList (by rw [Array.length_toList, hl, Nat.one_mul]) (fun j u hu => by
  rw [Addr.add_lit, Nat.zero_add, (Blk.new w T lit).cell j]
  simpa using hu) h1 h63 hbytes (Nat.le_trans hbase (by simp)) (by decide)
 unfold Oper.wp execOp
 simp only [ho, resolve, invoke, builtin, Sem.run_bind, Sem.run_pure, Result.andThen_ok, List.map_toArray, List.map_cons, List.map_nil, hs, hx, hr]
 exact hK _ _ (h v' w' h2 h3 (by simpa using h4))
end
end
section
abbrev Fn := Nat → Rat
def sumTo : Nat → Fn → Rat
 | 0, _ => 0
 | n + 1, f => sumTo n f + f n
theorem sumTo_congr : ∀ {n : Nat} {f g : Fn}, (∀ i, i < n → f i = g i) → sumTo n f = sumTo n g
 | 0, _, _, _ => rfl
 | n + 1, f, g, h => by rw [sumTo, sumTo, sumTo_congr fun i hi => h i (by omega), h n (by omega)]
theorem sumTo_zero : ∀ {n : Nat} {f : Fn}, (∀ i, i < n → f i = 0) → sumTo n f = 0
 | 0, _, _ => rfl
 | n + 1, f, h => by rw [sumTo, sumTo_zero fun i hi => h i (by omega), h n (by omega)]; exact Rat.add_zero 0
theorem sumTo_add (f g : Fn) : ∀ n : Nat, sumTo n (fun i => f i + g i) = sumTo n f + sumTo n g
 | 0 => (Rat.add_zero 0).symm
 | n + 1 => by rw [sumTo, sumTo, sumTo, sumTo_add f g n]; grind
theorem sumTo_mul (c : Rat) (f : Fn) : ∀ n : Nat, sumTo n (fun i => c * f i) = c * sumTo n f
 | 0 => (Rat.mul_zero c).symm
 | n + 1 => by rw [sumTo, sumTo, sumTo_mul c f n]; grind
theorem sumTo_one {n k : Nat} {f : Fn} (hk : k < n) (h : ∀ i, i < n → i ≠ k → f i = 0) : sumTo n f = f k := by
 induction n with
 | zero => omega
 | succ n ih =>
  rw [sumTo]
  by_cases hn : k = n
  ·subst hn
   rw [sumTo_zero fun i hi => h i (by omega) (by omega), Rat.zero_add]
  ·rw [ih (by omega) (fun i hi hik => h i (by omega) hik), h n (by omega) (fun e => hn e.symm), Rat.add_zero]
def dotn (n : Nat) (a x : Fn) : Rat := sumTo n fun i => a i * x i
theorem dotn_addl (n : Nat) (a b x : Fn) : dotn n (fun i => a i + b i) x = dotn n a x + dotn n b x := by
 unfold dotn; rw [← sumTo_add]; exact sumTo_congr fun i _ => by grind
theorem dotn_mull (n : Nat) (a x : Fn) (c : Rat) : dotn n (fun i => c * a i) x = c * dotn n a x := by
 unfold dotn; rw [← sumTo_mul]; exact sumTo_congr fun i _ => by grind
theorem dotn_congr {n : Nat} {a b x y : Fn} (h : ∀ i, i < n → a i = b i) (h2 : ∀ i, i < n → x i = y i) : dotn n a x = dotn n b y :=
 sumTo_congr fun i hi => by rw [h i hi, h2 i hi]
def Ker (n : Nat) (A : List Fn) (x : Fn) : Prop := ∀ a ∈ A, dotn n a x = 0
structure Ech (M : List Fn) (piv : List Nat) (k : Nat) : Prop where
 le : piv.length ≤ M.length
 inc : piv.Pairwise (· < ·)
 lt : ∀ p ∈ piv, p < k
 one : ∀ (t p : Nat) (a : Fn), piv[t]? = some p → M[t]? = some a → a p = 1
 zer : ∀ (t p i : Nat) (a : Fn), piv[t]? = some p → M[i]? = some a → i ≠ t → a p = 0
 low : ∀ (t p : Nat) (a : Fn), piv[t]? = some p → M[t]? = some a → ∀ j, j < p → a j = 0
 rest : ∀ (i : Nat) (a : Fn), M[i]? = some a → piv.length ≤ i → ∀ j, j < k → a j = 0
namespace Ech
variable {M : List Fn} {piv : List Nat} {n : Nat}
def free (piv : List Nat) (n : Nat) : List Nat := (List.range n).filter fun j => !piv.contains j
end Ech
end
end Go.Proofs.YtakllkkmofdpaaaGreatDoor
