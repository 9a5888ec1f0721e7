import Derived.Test.YtakllkkmofdpaaaGreatDoorU35
set_option linter.unusedVariables false
set_option linter.unusedSimpArgs false
namespace Go.Proofs.YtakllkkmofdpaaaGreatDoor
section
open Go
section
variable {P : Program} {Q : Exit → Act → World → Prop} {md : Region.Mode}
theorem skipH {L : List Oper} {S : World → Prop} (i : Nat) {oi : Oper} {fuel : Nat} {listed : Array Bool} {a : Act} {w : World} (hi : L[i]? = some oi) (hB : takeB md L.toArray listed i = true)
    (hQ : ∀ c a w, Q (.panic c) (a.put oi.dst undef) w → Q (.panic c) a w) (hw : Region.wanted oi (yielded L.toArray a.tmps) = false) (hS : S w)
    (h : wpAnyH P md L.toArray Q S fuel (listed.setIfInBounds i true) (a.put oi.dst undef) w) : wpAnyH P md L.toArray Q S (fuel + 1) listed a w := by
 unfold takeB at hB
 rw [Bool.and_eq_true, Bool.and_eq_true] at hB
 exact wpAnyH_take (by rw [List.getElem?_toArray]; exact hi) hB.1.1 hB.1.2 hB.2 hQ (.inr ⟨hw, rfl⟩) hS h
end
end
section
theorem sumTo_comm (f : Nat → Nat → Rat) (m : Nat) : ∀ n : Nat, sumTo n (fun i => sumTo m fun j => f i j) = sumTo m (fun j => sumTo n fun i => f i j)
 | 0 => by
  rw [sumTo, sumTo_zero]
  intro i _; rfl
 | n + 1 => by
  rw [sumTo, sumTo_comm f m n, ← sumTo_add]
  rfl
theorem fund : ∀ (n : Nat) (A : List Fn), A.length < n → ∃ c : Fn, (∃ i, i < n ∧ c i ≠ 0) ∧ ∀ a ∈ A, dotn n a c = 0 := by
 intro n
 induction n with
 | zero => intro A h; omega
 | succ n ih =>
  intro A hA
  by_cases hall : ∀ a ∈ A, a n = 0
  ·refine ⟨fun i => if i = n then 1 else 0, ⟨n, by omega, by dsimp only; rw [if_pos rfl]; decide⟩, fun a ha => ?_⟩
   unfold dotn
   refine sumTo_zero fun i hi => ?_
   by_cases h : i = n
   ·subst h; rw [hall a ha, Rat.zero_mul]
   ·dsimp only; rw [if_neg h, Rat.mul_zero]
  ·obtain ⟨R, hR, hRn⟩ : ∃ R ∈ A, R n ≠ 0 := by
    refine Classical.byContradiction fun hn => hall fun a ha => Classical.byContradiction fun h => hn ⟨a, ha, h⟩
   obtain ⟨l1, l2, rfl⟩ := List.append_of_mem hR
   obtain ⟨c, ⟨i, hi, hci⟩, hc⟩ := ih ((l1 ++ l2).map fun a i => a i + (-(a n / R n)) * R i) (by simp at hA ⊢; omega)
   refine ⟨fun i => if i < n then c i else -(dotn n R c / R n), ⟨i, by omega, by dsimp only; rw [if_pos hi]; exact hci⟩, fun a ha => ?_⟩
   have hs : ∀ a : Fn, dotn (n + 1) a (fun i => if i < n then c i else -(dotn n R c / R n)) = dotn n a c + a n * -(dotn n R c / R n) := fun a => by
    have e1 : dotn n a c = sumTo n fun i => a i * (if i < n then c i else -(dotn n R c / R n)) := sumTo_congr fun i hi => by rw [if_pos hi]
    rw [e1]
    show sumTo n (fun i => a i * (if i < n then c i else -(dotn n R c / R n))) + a n * (if n < n then c n else -(dotn n R c / R n)) = _
    rw [if_neg (Nat.lt_irrefl n)]
   rw [hs]
   have key : a = R ∨ a ∈ l1 ++ l2 := by
    rcases List.mem_append.1 ha with h | h
    ·exact .inr (List.mem_append_left _ h)
    ·rcases List.mem_cons.1 h with h | h
     ·exact .inl h
     ·exact .inr (List.mem_append_right _ h)
   rcases key with rfl | h
   ·grind
   ·have := hc _ (List.mem_map.2 ⟨a, h, rfl⟩)
    rw [dotn_addl, dotn_mull] at this
    grind
def comb (c : Fn) (ys : List Fn) : Fn := fun j => sumTo ys.length fun i => c i * (ys.getD i (fun _ => 0)) j
theorem comb_dot (n : Nat) (a c : Fn) (ys : List Fn) : dotn n a (comb c ys) = sumTo ys.length fun i => c i * dotn n a (ys.getD i (fun _ => 0)) := by
 unfold dotn comb
 have h1 : ∀ j, j < n → a j * sumTo ys.length (fun i => c i * (ys.getD i (fun _ => 0)) j) = sumTo ys.length (fun i => a j * (c i * (ys.getD i (fun _ => 0)) j)) := fun j _ => (sumTo_mul _ _ _).symm
 rw [sumTo_congr h1, sumTo_comm (fun j i => a j * (c i * (ys.getD i (fun _ => 0)) j))]
 refine sumTo_congr fun i _ => ?_
 rw [← sumTo_mul]
 exact sumTo_congr fun j _ => by grind
theorem getD_mem {ys : List Fn} {i : Nat} (hi : i < ys.length) : ys.getD i (fun _ => 0) ∈ ys := by
 rw [List.getD_eq_getElem?_getD, List.getElem?_eq_getElem hi]; exact List.getElem_mem hi
theorem comb_ker {n : Nat} {A ys : List Fn} (c : Fn) (h : ∀ y ∈ ys, Ker n A y) : Ker n A (comb c ys) := fun a ha => by
 rw [comb_dot]
 exact sumTo_zero fun i hi => by rw [h _ (getD_mem hi) a ha, Rat.mul_zero]
namespace Ech
variable {M : List Fn} {piv : List Nat} {n : Nat}
theorem nodup (E : Ech M piv n) : piv.Nodup := E.inc.imp fun h => Nat.ne_of_lt h
theorem free_len (E : Ech M piv n) : (free piv n).length + piv.length = n := by
 have h1 : ((List.range n).filter fun j => piv.contains j).length = piv.length := by
  refine List.Perm.length_eq ((List.perm_ext_iff_of_nodup (List.Pairwise.filter _ List.nodup_range) E.nodup).2 fun a => ?_)
  rw [List.mem_filter, List.mem_range]
  constructor
  ·intro h; simpa using h.2
  ·intro h; exact ⟨E.lt a h, by simpa using h⟩
 have h2 := List.length_eq_countP_add_countP (fun j => piv.contains j) (l := List.range n)
 rw [List.length_range, List.countP_eq_length_filter, List.countP_eq_length_filter, h1] at h2
 unfold free
 have h3 : ((List.range n).filter fun j => !piv.contains j) = ((List.range n).filter fun a => decide ¬piv.contains a = true) := by
  congr 1
  funext j
  cases piv.contains j <;> rfl
 rw [h3]
 omega
theorem mem_free {j : Nat} : j ∈ free piv n ↔ j < n ∧ j ∉ piv := by
 unfold free
 rw [List.mem_filter, List.mem_range]
 simp
theorem ker_zero (E : Ech M piv n) {z : Fn} (hz : Ker n M z) (hf : ∀ j, j < n → j ∉ piv → z j = 0) : ∀ j, j < n → z j = 0 := by
 intro j hj
 by_cases hp : j ∈ piv
 ·obtain ⟨t, ht⟩ := List.mem_iff_getElem?.1 hp
  have htl := (List.getElem?_eq_some_iff.1 ht).1
  obtain ⟨a, ha⟩ : ∃ a, M[t]? = some a := ⟨_, List.getElem?_eq_getElem (Nat.lt_of_lt_of_le htl E.le)⟩
  have h := hz a (List.mem_of_getElem? ha)
  unfold dotn at h
  rw [sumTo_one hj, E.one t j a ht ha, Rat.one_mul] at h
  ·exact h
  ·intro i hi hij
   by_cases hip : i ∈ piv
   ·obtain ⟨s, hs⟩ := List.mem_iff_getElem?.1 hip
    rw [E.zer s i t a hs ha (fun e => by subst e; rw [ht] at hs; injection hs with hs; exact hij hs.symm), Rat.zero_mul]
   ·rw [hf i hi hip, Rat.mul_zero]
 ·exact hf j hj hp
def bas (M : List Fn) (piv : List Nat) (c : Nat) : Fn := fun j => if j = c then 1 else match piv.findIdx? (· == j) with
 | some t => -((M.getD t (fun _ => 0)) c)
 | none => 0
theorem bas_free {c j : Nat} (hj : j ∉ piv) : bas M piv c j = if j = c then 1 else 0 := by
 unfold bas
 by_cases h : j = c
 ·rw [if_pos h, if_pos h]
 ·rw [if_neg h, if_neg h]
  have : piv.findIdx? (· == j) = none := List.findIdx?_eq_none_iff.2 fun x hx => by
   have : x ≠ j := fun e => hj (e ▸ hx)
   simpa using this
  rw [this]
theorem bas_piv (E : Ech M piv n) {c t p : Nat} {a : Fn} (hc : c ∉ piv) (ht : piv[t]? = some p) (ha : M[t]? = some a) : bas M piv c p = -(a c) := by
 unfold bas
 have hp := List.mem_of_getElem? ht
 rw [if_neg (fun e : p = c => hc (by rw [← e]; exact hp))]
 have : piv.findIdx? (· == p) = some t := by
  rw [List.findIdx?_eq_some_iff_getElem]
  obtain ⟨hl, he⟩ := List.getElem?_eq_some_iff.1 ht
  refine ⟨hl, by simp [he], fun j hj => ?_⟩
  have h1 := (List.pairwise_iff_getElem.1 E.inc) j t (by omega) hl hj
  rw [he] at h1
  simp; omega
 rw [this]
 simp only
 rw [List.getD_eq_getElem?_getD, ha]
 rfl
theorem bas_ker (E : Ech M piv n) {c : Nat} (hc : c < n) (hcp : c ∉ piv) : Ker n M (bas M piv c) := by
 intro a ha
 obtain ⟨i, hi⟩ := List.mem_iff_getElem?.1 ha
 by_cases hr : piv.length ≤ i
 ·unfold dotn
  exact sumTo_zero fun j hj => by rw [E.rest i a hi hr j hj, Rat.zero_mul]
 ·obtain ⟨p, hp⟩ : ∃ p, piv[i]? = some p := ⟨_, List.getElem?_eq_getElem (by omega)⟩
  have hpn := E.lt p (List.mem_of_getElem? hp)
  have hpc : p ≠ c := fun e => hcp (e ▸ List.mem_of_getElem? hp)
  have key : ∀ j, j < n → a j * bas M piv c j = (if j = c then a c else 0) + (if j = p then -(a c) else 0) := fun j hj => by
   by_cases hjp : j ∈ piv
   ·obtain ⟨s, hs⟩ := List.mem_iff_getElem?.1 hjp
    have hjc : j ≠ c := fun e => hcp (e ▸ hjp)
    rw [if_neg hjc]
    by_cases hji : j = p
    ·subst hji
     rw [if_pos rfl, E.one i j a hp hi, E.bas_piv hcp hp hi, Rat.one_mul, Rat.zero_add]
    ·rw [if_neg hji, E.zer s j i a hs hi (fun e => by subst e; rw [hp] at hs; injection hs with hs; exact hji hs.symm), Rat.zero_mul, Rat.add_zero]
   ·rw [bas_free hjp]
    have hji : j ≠ p := fun e => hjp (e ▸ List.mem_of_getElem? hp)
    rw [if_neg hji, Rat.add_zero]
    by_cases h : j = c
    ·subst h; rw [if_pos rfl, if_pos rfl, Rat.mul_one]
    ·rw [if_neg h, if_neg h, Rat.mul_zero]
  unfold dotn
  rw [sumTo_congr key, sumTo_add, sumTo_one (k := c) hc (fun i _ h => if_neg h), sumTo_one (k := p) hpn (fun i _ h => if_neg h), if_pos rfl, if_pos rfl]
  exact Rat.add_neg_cancel _
def basis (M : List Fn) (piv : List Nat) (n : Nat) : List Fn := (free piv n).map (bas M piv)
theorem basis_ker (E : Ech M piv n) : ∀ y ∈ basis M piv n, Ker n M y := fun y hy => by
 obtain ⟨c, hc, rfl⟩ := List.mem_map.1 hy
 obtain ⟨h1, h2⟩ := mem_free.1 hc
 exact E.bas_ker h1 h2
theorem basis_len (E : Ech M piv n) : (basis M piv n).length + piv.length = n := by
 unfold basis; rw [List.length_map]; exact E.free_len
theorem dim (E : Ech M piv n) (ys q : List Fn) (h : n - piv.length + q.length < ys.length) : ∃ c : Fn, (∃ i, i < ys.length ∧ c i ≠ 0) ∧ (∀ f ∈ q, dotn n f (comb c ys) = 0) ∧ ∀ j, j < n → j ∉ piv → comb c ys j = 0 := by
 have hl := E.free_len
 obtain ⟨c, hc, hA⟩ := fund ys.length ((free piv n).map (fun j i => (ys.getD i (fun _ => 0)) j) ++ q.map (fun f i => dotn n f (ys.getD i (fun _ => 0)))) (by simp; omega)
 refine ⟨c, hc, fun f hf => ?_, fun j hj hjp => ?_⟩
 ·rw [comb_dot]
  have := hA _ (List.mem_append_right _ (List.mem_map.2 ⟨f, hf, rfl⟩))
  unfold dotn at this
  refine Eq.trans ?_ this
  exact sumTo_congr fun i _ => by rw [Rat.mul_comm]; rfl
 ·have := hA _ (List.mem_append_left _ (List.mem_map.2 ⟨j, mem_free.2 ⟨hj, hjp⟩, rfl⟩))
  unfold dotn at this
  unfold comb
  refine Eq.trans ?_ this
  exact sumTo_congr fun i _ => by dsimp only; rw [Rat.mul_comm]
theorem comb_basis (E : Ech M piv n) (c : Fn) {i j : Nat} (hj : (free piv n)[i]? = some j) : comb c (basis M piv n) j = c i := by
 have hjm := List.mem_of_getElem? hj
 obtain ⟨h1, h2⟩ := mem_free.1 hjm
 have hil := (List.getElem?_eq_some_iff.1 hj).1
 have hnd : (free piv n).Nodup := List.Pairwise.filter _ List.nodup_range
 have hb : ∀ s, s < (free piv n).length → ((basis M piv n).getD s (fun _ => 0)) j = if s = i then 1 else 0 := fun s hs => by
  unfold basis
  rw [List.getD_eq_getElem?_getD, List.getElem?_map, List.getElem?_eq_getElem hs]
  simp only [Option.map_some, Option.getD_some]
  rw [bas_free h2]
  obtain ⟨_, he⟩ := List.getElem?_eq_some_iff.1 hj
  by_cases hsi : s = i
  ·subst hsi; rw [if_pos he.symm, if_pos rfl]
  ·rw [if_neg hsi, if_neg]
   intro e
   have hpw := List.pairwise_iff_getElem.1 hnd
   rcases Nat.lt_or_gt_of_ne hsi with hlt | hlt
   ·exact hpw s i hs hil hlt (by rw [he]; exact e.symm)
   ·exact hpw i s hil hs hlt (by rw [he]; exact e)
 unfold comb
 have hbl : (basis M piv n).length = (free piv n).length := by unfold basis; rw [List.length_map]
 rw [hbl, sumTo_one hil, hb i hil, if_pos rfl, Rat.mul_one]
 intro s hs hsi
 rw [hb s hs, if_neg hsi, Rat.mul_zero]
end Ech
theorem rank_mono {n : Nat} {MA MB : List Fn} {pa pb : List Nat} (EA : Ech MA pa n) (EB : Ech MB pb n) (h : ∀ x, Ker n MB x → Ker n MA x) : pa.length ≤ pb.length := by
 refine Nat.le_of_not_lt fun hlt => ?_
 have h1 := EB.basis_len
 have h2 := EA.free_len
 obtain ⟨c, ⟨i, hi, hci⟩, _, hz⟩ := EA.dim (Ech.basis MB pb n) [] (by simp; omega)
 have hk := h _ (comb_ker c EB.basis_ker)
 have h0 := EA.ker_zero hk hz
 have hil : i < (Ech.free pb n).length := by unfold Ech.basis at hi; rwa [List.length_map] at hi
 have hj : (Ech.free pb n)[i]? = some _ := List.getElem?_eq_getElem hil
 have := EB.comb_basis c hj
 rw [h0 _ (Ech.mem_free.1 (List.mem_of_getElem? hj)).1] at this
 exact hci this.symm
end
section
theorem rankR_ok {M : List (List Rat)} {n : Nat} (h : ∀ a ∈ M, a.length = n) (h0 : M = [] → n = 0) : ∃ (E : List Fn) (piv : List Nat), Ech E piv n ∧ piv.length = rankR M ∧ (∀ x, Ker n E x ↔ Ker n (vfs M) x) ∧ E.length = M.length := by
 have hw : widthR M = n := by
  cases M with
  | nil => exact (h0 rfl).symm
  | cons a r => exact h a (List.mem_cons_self ..)
 have := redR_ok h (Nat.le_refl n)
 refine ⟨_, _, this.ech, by unfold rankR; rw [hw], fun x => this.ker n (Nat.le_refl _) x, by rw [vfs_len, this.len]⟩
end
section
open Go.ChangeShapes Go.WideShapes Go.ChangeAt Go.RowKit
attribute [local go_sem ↓] execOp_call_val
attribute [local go_sem] callVal_func setCell_drewN alloc_drewN sEq_walk
theorem width_m (A : Option Addr) (n c : Nat) (M : List (List Rat)) (w : World) (hR : RdM w w.heap.size A n M) (hn : n ≤ 1000000) :
    Calls Tryz.prog 103 #[.slice A n c] w fun e w' => e = .returned (.int .i64 (widthR M : Int)) ∧ w = w' := by
 cases M with
 | nil =>
  have h0 : n = 0 := hR.len.symm
  subst h0
  clear hR
  go_enter Tryz.func103, Tryz.ntmps103
  go_wp2_with fail
  go_ret
  exact ⟨rfl, rfl⟩
 | cons a r =>
  have hl : n = r.length + 1 := hR.len.symm
  have h0 : 0 < n := by omega
  obtain ⟨b, off, hA, hb⟩ := hR.form h0
  subst hA
  obtain ⟨h, hc, hq, -, -⟩ := hR.at_ (i := 0) (q := a) rfl
  have hw : widthR (a :: r) = h.n := hq.len
  rw [hw]
  obtain ⟨hA, hn2, hc2⟩ := h
  simp only at hc ⊢
  rw [Nat.add_zero] at hc
  have hbl := World.block_lt_of_cell? w _ hc
  simp only at hbl
  have hnz : ((n : Int) == 0) = false := by simp; omega
  have hni : (0 : Int) < (n : Int) := by omega
  have HW := Lib.hid hw
  clear hl hR hq hw
  go_enter Tryz.func103, Tryz.ntmps103
  go_wp2_with fail
  go_ret
  exact ⟨rfl, rfl⟩
theorem widthR_le {M : List (List Rat)} {N : Nat} (h : ∀ a ∈ M, a.length = N) : widthR M ≤ N := by
 cases M with
 | nil => exact Nat.zero_le _
 | cons a r => exact Nat.le_of_eq (h a (List.mem_cons_self ..))
theorem rank_m (A : Option Addr) (n c N b : Nat) (M : List (List Rat)) (w : World) (hR : RdM w w.heap.size A n M) (ok : RkOk M N b) :
    Calls Tryz.prog 72 #[.slice A n c] w fun e w' => e = .returned (.int .i64 (rankR M : Int)) ∧ Below w.heap.size w w' := by
 have hn : n ≤ 1000000 := by rw [← hR.len]; exact ok.len
 have HL := Lib.hid hR.len
 have H1 := Lib.hid (width_m A n c M w hR hn)
 have hwl := widthR_le ok.wid
 have H2 := Lib.hid (reduce_m A n c (widthR M) N b M w hR hn ok.wid ok.n hwl ok.bd (Nat.le_trans (pow4_le hwl b) ok.sz))
 clear hR ok hwl
 go_enter Tryz.func72, Tryz.ntmps72
 go_wp2_with fail
 refine H1.out.mono ?_
 rintro e w' ⟨rfl, rfl⟩
 go_wp2_with fail
 refine H2.out.mono ?_
 rintro e w1 ⟨hb1, g, hs, v, rfl, -, hp⟩
 obtain ⟨pA, pc, hv, -, -⟩ := hp.shape
 subst hv
 have HB1 := Lib.hid hb1
 have HRK : Hid ((redR M (widthR M)).2.length = rankR M) := Lib.hid rfl
 clear hp hb1
 generalize (redR M (widthR M)).2.length = rk at *
 go_wp2_with fail
 go_ret
 exact ⟨by rw [← HRK.out]; rfl, HB1.out⟩
end
section
def Wid (n : Nat) (M : List (List Rat)) : Prop := ∀ a ∈ M, a.length = n
theorem wid_app {n : Nat} {A B : List (List Rat)} (h : Wid n A) (h2 : Wid n B) : Wid n (A ++ B) := fun a ha => (List.mem_append.1 ha).elim (h a) (h2 a)
theorem wid_one {n : Nat} {a : List Rat} (h : a.length = n) : Wid n [a] := fun x hx => by rw [List.mem_singleton.1 hx]; exact h
theorem rk_ech {n : Nat} {M : List (List Rat)} (h : Wid n M) : ∃ (E : List Fn) (piv : List Nat), Ech E piv n ∧ piv.length = rankR M ∧ (∀ x, Ker n E x ↔ Ker n (vfs M) x) ∧ E.length = M.length := by
 by_cases h0 : M = []
 ·subst h0
  refine ⟨[], [], ⟨Nat.le_refl _, List.Pairwise.nil, fun p hp => (by cases hp), fun t p a h => by simp at h, fun t p i a h => by simp at h, fun t p a h => by simp at h, fun i a h hi j hj => by simp at h⟩, rfl, fun x => Iff.rfl, rfl⟩
 ·exact rankR_ok h fun e => absurd e h0
theorem rk_mono {n : Nat} {A B : List (List Rat)} (hA : Wid n A) (hB : Wid n B) (h : ∀ x, Ker n (vfs B) x → Ker n (vfs A) x) : rankR A ≤ rankR B := by
 obtain ⟨E, pe, h1, h2, h3, _⟩ := rk_ech hA
 obtain ⟨F, pf, g1, g2, g3, _⟩ := rk_ech hB
 rw [← h2, ← g2]
 exact rank_mono h1 g1 fun x hx => (h3 x).2 (h x ((g3 x).1 hx))
theorem ker_app {n : Nat} {A B : List (List Rat)} {x : Fn} : Ker n (vfs (A ++ B)) x ↔ Ker n (vfs A) x ∧ Ker n (vfs B) x := by
 unfold vfs Ker
 rw [List.map_append]
 exact ⟨fun h => ⟨fun a ha => h a (List.mem_append_left _ ha), fun a ha => h a (List.mem_append_right _ ha)⟩, fun h a ha => (List.mem_append.1 ha).elim (h.1 a) (h.2 a)⟩
theorem ker_one {n : Nat} {a : List Rat} {x : Fn} : Ker n (vfs [a]) x ↔ dotn n (vf a) x = 0 := by
 unfold vfs Ker
 exact ⟨fun h => h _ (by simp), fun h f hf => by rw [show f = vf a from by simpa using hf]; exact h⟩
end
section
theorem find_new {S : Nat → Nat → Bool} {b : Nat} : (List.range b).find? (fun a => S a b) = none ↔ newS S b = true := by
 unfold newS
 rw [List.find?_eq_none]
 simp
theorem arR_cnt (S : Nat → Nat → Bool) : ∀ n : Nat, (arR S n).2 = cnt (newS S) n
 | 0 => rfl
 | n + 1 => by
  rw [cnt_succ, ← arR_cnt S n]
  rw [arR_succ]
  cases h : (List.range n).find? (fun a => S a n) with
  | none => simp [find_new.1 h]
  | some a =>
   have : newS S n = false := by
    cases hn : newS S n with
    | false => rfl
    | true => rw [find_new.2 hn] at h; cases h
   simp [this]
end
section
open Go.ChangeShapes Go.WideShapes Go.ChangeAt Go.RowKit
attribute [local go_sem ↓] execOp_call_val
attribute [local go_sem] callVal_func setCell_drewN alloc_drewN sEq_walk
theorem freeL_lt {x : Net} {j : Nat} (h : j ∈ freeL x) : j < busN x := by
 unfold freeL pick at h
 have h2 := (List.mem_filter.1 h).1
 exact List.mem_range.1 h2
theorem rowR_at {x : Net} {q : List Rat} {k j : Nat} (h : (freeL x)[k]? = some j) : (rowR x q).take (k + 1) = (rowR x q).take k ++ [vf q j] := by
 have h2 : (rowR x q)[k]? = some (vf q j) := by unfold rowR; rw [List.getElem?_map, h]; rfl
 exact take_at h2
def RowP (x : Net) (q : List Rat) (w : World) (e : Ending) (w' : World) : Prop := Below w.heap.size w w' ∧ ∃ B v us, w.heap.size ≤ B ∧ e = .returned v ∧ OwnQ w' B v us (rowR x q)
set_option maxRecDepth 100000 in
set_option maxHeartbeats 4000000 in
theorem orow_any (g : Nat) (m : ModH) (y : Value) (x : Net) (ok : NetOk x) (h8 : x.nodes.length ≤ 8) (u : Rv) (A : Option Addr) (n c : Nat) (q : List Rat) (w : World) (hg : Blk w g 123 (m.cells y)) (hr : RdMod w w.heap.size m x) (hq : RdQ w w.heap.size A n q) (hn : n = busN x) :
    Calls Tryz.prog 77 #[.pointer (some ⟨g, 0, none⟩), .agg #[.slice A n c, .bool u.b1, .slice u.A u.n u.c, .bool u.b2, .slice u.A2 u.m u.d]] w (RowP x q w) := by
 have K0 : Below w.heap.size w (w.alloc (.cells #[.slice A n c, .bool u.b1, .slice u.A u.n u.c, .bool u.b2, .slice u.A2 u.m u.d] 128)) := (Below.refl _ _).alloc (Nat.le_refl _) _
 have HK := Lib.hid K0
 have HFB := Lib.hid (Blk.new w 128 #[.slice A n c, .bool u.b1, .slice u.A u.n u.c, .bool u.b2, .slice u.A2 u.m u.d])
 have HG := Lib.hid (hg.below K0 hg.lt)
 have HR := Lib.hid (hr.up K0)
 have HQ := Lib.hid (hq.up K0)
 have HNB := Lib.hid hn
 have HN6 : Hid ((freeL x).length = m.n6) := Lib.hid (by rw [← natJ_len]; exact hr.r6.len)
 have h6 : m.n6 ≤ 8 := by rw [← HN6.out]; exact freeL_len ok h8
 have HQL : Hid (q.length = n) := Lib.hid (by obtain ⟨vs, _, h, _⟩ := hq; exact h)
 have hnb : n ≤ 8 := by rw [hn]; exact Nat.le_trans (busN_ok ok).2 h8
 have HSZ : Hid (w.heap.size ≤ (w.alloc (.cells #[.slice A n c, .bool u.b1, .slice u.A u.n u.c, .bool u.b2, .slice u.A2 u.m u.d] 128)).heap.size) := Lib.hid K0.size
 have HFW : Hid (w.heap.size < (w.alloc (.cells #[.slice A n c, .bool u.b1, .slice u.A u.n u.c, .bool u.b2, .slice u.A2 u.m u.d] 128)).heap.size) := Lib.hid HFB.out.lt
 clear K0 hg hr hq hn ok
 obtain ⟨A0, n0, c0, A1, n1, c1, A2, n2, c2, A3, n3, c3, A4, n4, c4, A5, n5, c5, A6, n6, c6⟩ := m
 simp only [ModH.cells] at HG HN6 h6
 have y6 := HG.out.cell 6
 have yl := HG.out.lt
 go_enter Tryz.func77, Tryz.ntmps77
 go_wp2_with fail
 clear y6 yl
 generalize w.alloc (.cells #[.slice A n c, .bool u.b1, .slice u.A u.n u.c, .bool u.b2, .slice u.A2 u.m u.d] 128) = W at *
 go_loopw [5, 13] (fun v5 v13 wr => ∃ (k : Nat) (us : List Rv), k ≤ n6 ∧ v13 = .int .i64 k ∧ OwnQ wr W.heap.size v5 us ((rowR x q).take k) ∧ Below W.heap.size W wr) (fun _ v13 _ => n6 - (intOf v13).toNat)
 case atStart => exact ⟨0, [], by omega, rfl, ownQ_none _ _, Below.refl _ _⟩
 case round =>
  obtain ⟨k, us, hk, rfl, ho, hb⟩ := hrel
  have HO := Lib.hid ho
  have HB := Lib.hid hb
  clear ho hb
  by_cases hlt : k < n6
  ·obtain ⟨j, hj⟩ : ∃ j, (freeL x)[k]? = some j := ⟨_, List.getElem?_eq_getElem (by have := HN6.out; omega)⟩
   have HTK := Lib.hid (rowR_at (q := q) hj)
   have hjb : j < n := by rw [HNB.out]; exact freeL_lt (List.mem_of_getElem? hj)
   have hr6 := (HR.out.up HB.out).r6
   simp only at hr6
   obtain ⟨fb, fo, hA, hfb, -⟩ := hr6.2 (by have := hr6.len; omega)
   subst hA
   have f0 := hr6.at_ (natJ_at hj)
   have HQW := HQ.out.up HB.out
   obtain ⟨ab, ao, hA1, hab⟩ := HQW.form (by omega)
   subst hA1
   obtain ⟨xe, a0, a1, a2, a3, a4⟩ := HQW.at_ (vf_get (i := j) (by rw [HQL.out]; exact hjb))
   have HX := Lib.hid a4
   have HFBw := HFB.out.below HB.out HFB.out.lt
   have z0 := HFBw.cell 0
   have zl := HFBw.lt
   have hkI : (k : Int) < (n6 : Int) := by omega
   have hk0 : (0 : Int) ≤ (k : Int) := by omega
   have hkn : (k : Int).toNat = k := Int.toNat_natCast k
   have hjI : (j : Int) < (n : Int) := by omega
   have hj0 : (0 : Int) ≤ (j : Int) := by omega
   have hjn : (j : Int).toNat = j := Int.toNat_natCast j
   have HNX : Hid ((k : Int) + 1 = ((k + 1 : Nat) : Int)) := Lib.hid (by omega)
   have HNM : Hid (n6 - (k + 1) < n6 - k) := Lib.hid (by omega)
   have HGW : Hid (W.heap.size ≤ wr.heap.size) := Lib.hid HB.out.size
   clear hj a4 hr6 HQW HFBw
   go_wp2_with (at_builtin; refine wpList_appQ rfl (.tmp 17) (.tmp 23) _ rfl W.heap.size Tryz.underlying103 u5 us _ rfl HO.out xe _ HX.out rfl ?k1 HGW.out ?_)
   case k1 => rw [List.length_take]; omega
   intro v' w8 hown hkeep hb8
   have HO8 := Lib.hid hown
   have HB8 := Lib.hid (HB.out.trans hb8)
   clear hown hkeep hb8 f0 a0 a1 a2 a3 z0 zl
   go_wp2_with fail
   go_roundw
   case rel => exact ⟨k + 1, us ++ [xe], hlt, val_int HNX.out, by rw [HTK.out]; exact HO8.out, HB8.out⟩
   case measure => exact HNM.out
  ·have hke : k = n6 := by omega
   have HOE : Hid (OwnQ wr W.heap.size u5 us (rowR x q)) := Lib.hid (by
    have h := HO.out
    rw [List.take_of_length_le (by unfold rowR; rw [List.length_map]; have := HN6.out; omega)] at h
    exact h)
   have hkI : ¬ (k : Int) < (n6 : Int) := by omega
   go_wp2_with fail
   go_ret
   exact ⟨HK.out.trans (HB.out.mono HSZ.out), _, _, _, HSZ.out, rfl, HOE.out⟩
end
section
open Go.ChangeShapes Go.WideShapes Go.ChangeAt Go.RowKit
attribute [local go_sem ↓] execOp_call_val
attribute [local go_sem] callVal_func setCell_drewN alloc_drewN sEq_walk
theorem info_rw : (Tryz.prog.info? 103).map (fun i => (i.zero, i.size, i.bytes)) = some (some (.slice none 0 0), 1, 24) := by kernel_rfl
theorem rowsS_none (w : World) (base : Nat) : RowsS w base (.slice none 0 0) [] [] := ⟨ownS_none _ _ _ _ _, rfl, fun i h q hh => by simp at hh⟩
theorem wpList_appRow {ops : Array Oper} {rest : List Oper} {o : Oper} {a : Act} {Q : Exit → Act → World → Prop} {w : World} {T : TypeId} (hgd : o.guard = none) (s x : Operand) (t : TypeId)
    (ho : o.op = .call { callee := .builtin .append, args := #[s, x], argTypes := #[t, t] }) (base : Nat)
    (ht : Tryz.prog.underlying t = some (.slice 103))
    (v : Value) (hs : List Hd) (M : List (List Rat)) (hsv : a.eval s = v) (hown : RowsS w base v hs M) (B : Nat) (z : Value) (us : List Rv) (p : List Rat) (hp : OwnQ w B z us p)
    (hx : a.eval x = .slice (some ⟨w.heap.size, 0, none⟩) 1 1) (h63 : M.length ≤ 1000000000) (hbase : base ≤ w.heap.size)
    (h : ∀ v' w' hs', RowsS w' base v' hs' (M ++ [p]) → Below base w w' → wpList Tryz.prog ops Q rest (a.put o.dst v') w') :
    wpList Tryz.prog ops Q (o :: rest) a (w.alloc (.cells #[z] T)) := by
 obtain ⟨i0, hi0, hz0, hz1, hz2⟩ := info_parts info_rw
 have hl := hown.len
 obtain ⟨A, c, e, _⟩ := hp.rd
 subst e
 refine wpList_appS (S := NoI) hgd s x t ho base 103 i0 _ 1 24 ht hi0 hz0 hz1 hz2 rfl (by omega) (fun u hu => ?_) v hs.length (hs.map Hd.val) hsv hown.own hx rfl (fun u hu => ?_) (by simp only [maxLen]; omega) (by omega) hbase fun v' w' h1 h2 _ => ?_
 ·have hu' : u ∈ [Value.slice none 0 0] := hu
  rw [List.mem_singleton.1 hu']
  exact fun k x h => by cases h
 ·have hu' : u ∈ [Value.slice A p.length c] := hu
  rw [List.mem_singleton.1 hu']
  exact ⟨rfl, fun k x h => by cases h⟩
 have hb : Below w.heap.size w (w.alloc (.cells #[.slice A p.length c] T)) := (Below.refl _ _).alloc (Nat.le_refl _) _
 exact h v' w' (hs ++ [⟨A, p.length, c⟩]) (RowsS.app (hown.keep hb) (z := ⟨A, p.length, c⟩) (hp.keep hb) h1 h2) ((hb.mono hbase).trans h2.low)
def RowsP (x : Net) (ms : List Mi) (w : World) (e : Ending) (w' : World) : Prop := Below w.heap.size w w' ∧ ∃ A c, e = .returned (.slice A ms.length c) ∧ RdM w' w'.heap.size A ms.length (rowsR x ms) ∧ ms.length ≤ c ∧ c ≤ maxLen
end
section
open Go.ChangeShapes Go.WideShapes Go.ChangeAt Go.RowKit
theorem rdM_own {w0 w' : World} {base : Nat} {v : Value} {hs : List Hd} {M : List (List Rat)} (hb : Below w0.heap.size w0 w') (hl : hs.length = M.length)
    (hr : ∀ (i : Nat) (h : Hd) (q : List Rat), hs[i]? = some h → M[i]? = some q → RdQ w0 w0.heap.size h.A h.n q ∧ h.n ≤ h.c ∧ h.c ≤ maxLen)
    (own : OwnS NoI w' base 103 1 v hs.length (hs.map Hd.val)) : ∃ A c, v = .slice A M.length c ∧ RdM w' w'.heap.size A M.length M ∧ M.length ≤ c ∧ c ≤ maxLen := by
 obtain ⟨A, c, hv, hrd, h1, h2, h3⟩ := own_rd own.own
 rw [hl] at hv hrd h1
 exact ⟨A, c, hv, ⟨hs, hl, rfl, hrd, fun i h q hh hq => ⟨((hr i h q hh hq).1.below hb (Nat.le_refl _)).more hb.size, (hr i h q hh hq).2⟩⟩, h1, h2⟩
theorem cutAtK_mem {α : Type} {l : List α} {k : Nat} {x : α} (h : x ∈ cutAtK l k) : x ∈ l := by
 unfold cutAtK at h
 rcases List.mem_append.1 h with h | h
 ·exact List.mem_of_mem_take h
 ·exact List.mem_of_mem_drop h
end
section
open Go.ChangeShapes Go.WideShapes Go.ChangeAt Go.RowKit
attribute [local go_sem ↓] execOp_call_val
attribute [local go_sem] callVal_func setCell_drewN alloc_drewN sEq_walk
theorem rowsR_at {x : Net} {ms : List Mi} {k : Nat} {mi : Mi} (h : ms[k]? = some mi) : (rowsR x ms).take (k + 1) = (rowsR x ms).take k ++ [rowR x (formR x mi).1] := by
 have h2 : (rowsR x ms)[k]? = some (rowR x (formR x mi).1) := by unfold rowsR; rw [List.getElem?_map, h]; rfl
 exact take_at h2
set_option maxRecDepth 100000 in
set_option maxHeartbeats 4000000 in
theorem orows_any (h : NetH) (x : Net) (ok : NetOk x) (h8 : x.nodes.length ≤ 8) (g : Nat) (m : ModH) (y : Value) (A : Option Addr) (n c : Nat) (ms : List Mi) (w : World) (r : RdNet w w.heap.size h x) (hg : Blk w g 123 (m.cells y)) (hr : RdMod w w.heap.size m x) (hm : RdMi w w.heap.size A n ms) (hn : n ≤ 64) (hok : ∀ m ∈ ms, MiOk x m) :
    Calls Tryz.prog 70 #[.agg h.cells, .pointer (some ⟨g, 0, none⟩), .slice A n c] w (RowsP x ms w) := by
 have K0 : Below w.heap.size w (w.alloc (.cells h.cells 33)) := (Below.refl _ _).alloc (Nat.le_refl _) _
 have HK := Lib.hid K0
 have P0 := Lib.hid (Blk.new w 33 h.cells)
 have HG := Lib.hid (hg.below K0 hg.lt)
 have HR := Lib.hid (hr.up K0)
 have HX := Lib.hid (r.up K0)
 have HM := Lib.hid ((hm.below K0 (Nat.le_refl _)).more K0.size)
 have HML : Hid (ms.length = n) := Lib.hid hm.1
 have HOK := Lib.hid ok
 have HMK := Lib.hid hok
 have HSZ : Hid (w.heap.size ≤ (w.alloc (.cells h.cells 33)).heap.size) := Lib.hid K0.size
 clear K0 hg hr hm r hok ok
 obtain ⟨D0, r0, s0, D1, r1, s1, D2, r2, s2, D3, r3, s3, D4, r4, s4, D5, r5, s5⟩ := h
 go_enter Tryz.func70, Tryz.ntmps70
 go_wp2_with fail
 generalize w.alloc (.cells (NetH.cells ⟨D0, r0, s0, D1, r1, s1, D2, r2, s2, D3, r3, s3, D4, r4, s4, D5, r5, s5⟩) 33) = W at *
 go_loopw [7, 12] (fun v7 v12 wr => ∃ (k : Nat) (hs : List Hd), k ≤ n ∧ v12 = .int .i64 k ∧ RowsS wr W.heap.size v7 hs ((rowsR x ms).take k) ∧ Below W.heap.size W wr) (fun _ v12 _ => n - (intOf v12).toNat)
 case atStart => exact ⟨0, [], by omega, rfl, rowsS_none _ _, Below.refl _ _⟩
 case round =>
  obtain ⟨k, hs, hk, rfl, ho, hb⟩ := hrel
  have HO := Lib.hid ho
  have HB := Lib.hid hb
  clear ho hb
  by_cases hlt : k < n
  ·obtain ⟨mi, hmi⟩ : ∃ mi, ms[k]? = some mi := ⟨_, List.getElem?_eq_getElem (by have := HML.out; omega)⟩
   have HTK := Lib.hid (rowsR_at (x := x) hmi)
   have HMO := Lib.hid (HMK.out mi (List.mem_of_getElem? hmi))
   have hmm := (HM.out.below HB.out (Nat.le_refl _)).more HB.out.size
   have hmm2 := hmm.2.2 (by omega)
   obtain ⟨ab, ao, hA, hab, -⟩ := hmm2
   subst hA
   obtain ⟨a0, a1, a2, a3⟩ := hmm.at_ hmi
   have hkI : (k : Int) < (n : Int) := by omega
   have hk0 : (0 : Int) ≤ (k : Int) := by omega
   have hkn : (k : Int).toNat = k := Int.toNat_natCast k
   have HNX : Hid ((k : Int) + 1 = ((k + 1 : Nat) : Int)) := Lib.hid (by omega)
   have HNM : Hid (n - (k + 1) < n - k) := Lib.hid (by omega)
   clear hmi hmm
   go_upto_region 5 with fail
   clear a0 a1 a2 a3 hab hkI hk0 hkn
   have hz : Below wr.heap.size wr (wr.alloc (.cells #[.int .i64 mi.kind, .string mi.name, .string mi.txt, .int .i64 mi.wt] 57)) := (Below.refl _ _).alloc (Nat.le_refl _) _
   have HMB := Lib.hid (Blk.new wr 57 #[.int .i64 mi.kind, .string mi.name, .string mi.txt, .int .i64 mi.wt])
   replace HO := Lib.hid (HO.out.keep hz)
   have HBW : Hid (Below W.heap.size W (wr.alloc (.cells #[.int .i64 mi.kind, .string mi.name, .string mi.txt, .int .i64 mi.wt] 57))) := Lib.hid (HB.out.trans (hz.mono HB.out.size))
   clear hz HB
   generalize wr.alloc (.cells #[.int .i64 mi.kind, .string mi.name, .string mi.txt, .int .i64 mi.wt] 57) = wa at *
   have P0w := P0.out.below HBW.out P0.out.lt
   obtain ⟨y0, y1, y2, y3, y4, y5, nf, nlt⟩ := net_box (h := ⟨D0, r0, s0, D1, r1, s1, D2, r2, s2, D3, r3, s3, D4, r4, s4, D5, r5, s5⟩) P0w
   dsimp only at y0 y1 y2 y3 y4 y5
   have x0 := HMB.out.cell 0
   have x1 := HMB.out.cell 1
   have x2 := HMB.out.cell 2
   have x3 := HMB.out.cell 3
   have xl := HMB.out.lt
   clear P0w
   go_wp2_with fail
   refine (formOf_any ⟨D0, r0, s0, D1, r1, s1, D2, r2, s2, D3, r3, s3, D4, r4, s4, D5, r5, s5⟩ x HOK.out h8 g m y mi wa (HX.out.up HBW.out) (HG.out.below HBW.out HG.out.lt) (HR.out.up HBW.out) HMO.out.1 HMO.out.2).mono ?_
   rintro e w5 ⟨hb5, gc, u, rfl, hq, hv⟩
   clear y0 y1 y2 y3 y4 y5 nf nlt x0 x1 x2 x3 xl
   have HB5 := Lib.hid (HBW.out.trans (hb5.mono HBW.out.size))
   replace HO := Lib.hid (HO.out.keep hb5)
   have HQ := Lib.hid hq
   clear hb5 hq hv HBW
   go_wp2_with fail
   refine (orow_any g m y x HOK.out h8 u (some ⟨gc, 0, none⟩) (busN x) (busN x) (formR x mi).1 w5 (HG.out.below HB5.out HG.out.lt) (HR.out.up HB5.out) HQ.out rfl).mono ?_
   rintro e w6 ⟨hb6, B6, v6, us, hB6, rfl, hown⟩
   have HB6 := Lib.hid (HB5.out.trans (hb6.mono HB5.out.size))
   replace HO := Lib.hid (HO.out.keep hb6)
   have HW6 := Lib.hid hown
   obtain ⟨A', c', hv6, -⟩ := hown.rd
   subst hv6
   have HGW : Hid (W.heap.size ≤ w6.heap.size) := Lib.hid HB6.out.size
   clear hb6 hB6 hown HB5 HQ
   go_wp2_with (at_builtin; refine wpList_appRow rfl (.tmp 16) (.tmp 23) _ rfl W.heap.size Tryz.underlying117 u7 hs _ rfl HO.out B6 _ us _ HW6.out rfl ?k1 HGW.out ?_)
   case k1 => rw [List.length_take]; omega
   intro v' w8 hs' hrows hb8
   have HO8 := Lib.hid hrows
   have HB8 := Lib.hid (HB6.out.trans hb8)
   clear hrows hb8
   go_wp2_with fail
   go_roundw
   case rel => exact ⟨k + 1, hs', hlt, val_int HNX.out, by rw [HTK.out]; exact HO8.out, HB8.out⟩
   case measure => exact HNM.out
  ·have hke : k = n := by omega
   have hrl : (rowsR x ms).length = n := by unfold rowsR; rw [List.length_map]; exact HML.out
   have HOE : Hid (RowsS wr W.heap.size u7 hs (rowsR x ms)) := Lib.hid (by
    have h := HO.out
    rw [List.take_of_length_le (by omega)] at h
    exact h)
   have hkI : ¬ (k : Int) < (n : Int) := by omega
   obtain ⟨A', c', hv, hrd, h1, h2⟩ := HOE.out.rd
   rw [hrl] at hv hrd h1
   subst hv
   have HRD := Lib.hid hrd
   clear hrd hrl
   go_wp2_with fail
   go_ret
   exact ⟨HK.out.trans (HB.out.mono HSZ.out), A', c', by rw [HML.out]; rfl, by rw [HML.out]; exact HRD.out, by rw [HML.out]; exact h1, h2⟩
end
section
open Go.ChangeShapes Go.WideShapes Go.ChangeAt Go.RowKit
attribute [local go_sem ↓] execOp_call_val
attribute [local go_sem] callVal_func setCell_drewN alloc_drewN sEq_walk
theorem rowR_len {x : Net} {q : List Rat} : (rowR x q).length = (freeL x).length := by unfold rowR; rw [List.length_map]
theorem rowsR_ok {x : Net} (ok : NetOk x) {ms : List Mi} (hm : ∀ m ∈ ms, MiOk x m) : (∀ a ∈ rowsR x ms, a.length = (freeL x).length) ∧ ∀ a ∈ rowsR x ms, ∀ q ∈ a, qsz q ≤ 300 := by
 refine ⟨fun a ha => ?_, fun a ha q hq => ?_⟩ <;> (unfold rowsR at ha; obtain ⟨m, hmm, rfl⟩ := List.mem_map.1 ha)
 ·exact rowR_len
 ·unfold rowR at hq
  obtain ⟨j, hj, rfl⟩ := List.mem_map.1 hq
  have h := formR_ok ok (hm m hmm)
  exact h.cf _ (List.mem_of_getElem? (vf_get (by rw [h.len]; exact freeL_lt hj)))
end
section
open Go.ChangeShapes Go.WideShapes Go.ChangeAt Go.RowKit
attribute [local go_sem ↓] execOp_call_val
attribute [local go_sem] callVal_func setCell_drewN alloc_drewN sEq_walk
theorem rk_ok {x : Net} (ok : NetOk x) (h8 : x.nodes.length ≤ 8) {ms : List Mi} (hl : ms.length ≤ 64) (hm : ∀ m ∈ ms, MiOk x m) : RkOk (rowsR x ms) (freeL x).length 301 := by
 obtain ⟨h1, h2⟩ := rowsR_ok ok hm
 have hf := freeL_len ok h8
 refine ⟨h1, fun a ha q hq => Nat.succ_le_succ (h2 a ha q hq), ?_, by unfold rowsR; rw [List.length_map]; omega, by omega⟩
 exact Nat.le_trans (Nat.mul_le_mul (Nat.pow_le_pow_right (by decide) hf) (Nat.le_refl _)) (by decide)
def rankA (x : Net) (ms : List Mi) : Int × Int × Int := if mtCk x ms = 0 then ((rankR (rowsR x ms) : Int), ((freeL x).length : Int), 0) else (0, 0, mtCk x ms)
set_option maxRecDepth 100000 in
set_option maxHeartbeats 4000000 in
theorem orank_any (h : NetH) (x : Net) (h8 : x.nodes.length ≤ 8) (A : Option Addr) (n c : Nat) (ms : List Mi) (w : World) (r : RdNet w w.heap.size h x) (hm : RdMi w w.heap.size A n ms) (hz : ∀ m ∈ ms, m.txt.size ≤ maxLen) (hn : n ≤ 9223372036854775807) (ht : TabOk w) :
    Calls Tryz.prog 28 #[.agg h.cells, .slice A n c] w fun e w' => e = .returned (.tuple #[.int .i64 (rankA x ms).1, .int .i64 (rankA x ms).2.1, .int .i64 (rankA x ms).2.2]) ∧ Below w.heap.size w w' := by
 have K0 : Below w.heap.size w (w.alloc (.cells h.cells 33)) := (Below.refl _ _).alloc (Nat.le_refl _) _
 have HK := Lib.hid K0
 have P0 := Lib.hid (Blk.new w 33 h.cells)
 have HX := Lib.hid (r.up K0)
 have HM := Lib.hid ((hm.below K0 (Nat.le_refl _)).more K0.size)
 have HML : Hid (ms.length = n) := Lib.hid hm.1
 have HSZ : Hid (w.heap.size ≤ (w.alloc (.cells h.cells 33)).heap.size) := Lib.hid K0.size
 have HCK := Lib.hid (mcheck_any h x A n c ms (w.alloc (.cells h.cells 33)) HX.out HM.out hz hn (ht.up K0))
 have HRA : Hid (rankA x ms = if mtCk x ms = 0 then ((rankR (rowsR x ms) : Int), ((freeL x).length : Int), 0) else (0, 0, mtCk x ms)) := Lib.hid rfl
 have HMO : Hid (mtCk x ms = 0 → NetOk x ∧ ms.length ≤ 64 ∧ ∀ m ∈ ms, MiOk x m) := Lib.hid mtCk_ok
 generalize rankA x ms = ra at *
 generalize mtCk x ms = ck at *
 clear K0 hm r hz ht
 obtain ⟨D0, r0, s0, D1, r1, s1, D2, r2, s2, D3, r3, s3, D4, r4, s4, D5, r5, s5⟩ := h
 obtain ⟨y0, y1, y2, y3, y4, y5, nf, nlt⟩ := net_box (h := ⟨D0, r0, s0, D1, r1, s1, D2, r2, s2, D3, r3, s3, D4, r4, s4, D5, r5, s5⟩) P0.out
 dsimp only at y0 y1 y2 y3 y4 y5
 go_enter Tryz.func28, Tryz.ntmps28
 go_wp2_with fail
 generalize w.alloc (.cells (NetH.cells ⟨D0, r0, s0, D1, r1, s1, D2, r2, s2, D3, r3, s3, D4, r4, s4, D5, r5, s5⟩) 33) = W at *
 refine HCK.out.mono ?_
 rintro e w1 ⟨rfl, hb1⟩
 have HB1 := Lib.hid hb1
 clear hb1 y0 y1 y2 y3 y4 y5 nf nlt HCK
 by_cases hck : ck = 0
 ·subst hck
  obtain ⟨ok, hl, hmi⟩ := HMO.out rfl
  have HOK := Lib.hid ok
  have HL := Lib.hid hl
  have HMI := Lib.hid hmi
  have HRE : Hid (ra = ((rankR (rowsR x ms) : Int), ((freeL x).length : Int), 0)) := Lib.hid (by rw [HRA.out, if_pos rfl])
  clear ok hl hmi HMO HRA
  have P1 := P0.out.below HB1.out P0.out.lt
  obtain ⟨y0, y1, y2, y3, y4, y5, nf, nlt⟩ := net_box (h := ⟨D0, r0, s0, D1, r1, s1, D2, r2, s2, D3, r3, s3, D4, r4, s4, D5, r5, s5⟩) P1
  dsimp only at y0 y1 y2 y3 y4 y5
  clear P1
  go_wp2_with fail
  refine (flowOf_any ⟨D0, r0, s0, D1, r1, s1, D2, r2, s2, D3, r3, s3, D4, r4, s4, D5, r5, s5⟩ x HOK.out h8 w1 (HX.out.up HB1.out)).mono ?_
  rintro e w2 ⟨hb2, g, m, A7, n7, c7, rfl, hg, hblk, hrd, -⟩
  have HB2 := Lib.hid (HB1.out.trans (hb2.mono HB1.out.size))
  have HG := Lib.hid hblk
  have HR := Lib.hid hrd
  have HN6 : Hid ((freeL x).length = m.n6) := Lib.hid (by rw [← natJ_len]; exact hrd.r6.len)
  clear hb2 hg hblk hrd y0 y1 y2 y3 y4 y5 nf nlt
  have P2 := P0.out.below HB2.out P0.out.lt
  obtain ⟨y0, y1, y2, y3, y4, y5, nf, nlt⟩ := net_box (h := ⟨D0, r0, s0, D1, r1, s1, D2, r2, s2, D3, r3, s3, D4, r4, s4, D5, r5, s5⟩) P2
  dsimp only at y0 y1 y2 y3 y4 y5
  have g6 : w2.cell? ⟨g, 6, none⟩ = some (.slice m.A6 m.n6 m.c6) := HG.out.cell 6
  have gl := HG.out.lt
  have HB4 := Lib.hid (below_drew (Below.refl w2.heap.size w2))
  have HM2 := Lib.hid ((HM.out.below HB2.out (Nat.le_refl _)).more HB2.out.size)
  have HX2 := Lib.hid (HX.out.up HB2.out)
  clear P2
  go_upto_region 5 with fail
  refine wp_region_last (S := fun w' => Below w2.heap.size w2 w') 12 _ (by kernel_rfl) (by kernel_rfl) rfl (below_drew (Below.refl _ _)) (fun hHeld => ?_)
  simp only [List.take_succ_cons, List.take_zero]
  refine tkH 0 rfl (by intro w' _ hcc; go_simp <;> with_reducible rfl) hHeld ?_
  try simp only [Act.put, sA_, sB_, sC_]
  refine tkH 1 rfl (by intro w' _ hcc; go_simp <;> with_reducible rfl) hHeld ?_
  try simp only [Act.put, sA_, sB_, sC_]
  refine tkH 2 rfl (by intro w' _ hcc; go_simp <;> with_reducible rfl) hHeld ?_
  try simp only [Act.put, sA_, sB_, sC_]
  refine tkH 5 rfl (by intro w' _ hcc; go_simp <;> with_reducible rfl) hHeld ?_
  try simp only [Act.put, sA_, sB_, sC_]
  refine tkH 6 rfl (by intro w' _ hcc; go_simp <;> with_reducible rfl) hHeld ?_
  try simp only [Act.put, sA_, sB_, sC_]
  refine tkH 7 rfl (by intro w' _ hcc; go_simp <;> with_reducible rfl) hHeld ?_
  try simp only [Act.put, sA_, sB_, sC_]
  refine tkH 8 rfl (by intro w' _ hcc; go_simp <;> with_reducible rfl) hHeld ?_
  try simp only [Act.put, sA_, sB_, sC_]
  refine tkH 9 rfl (by intro w' _ hcc; go_simp <;> with_reducible rfl) hHeld ?_
  try simp only [Act.put, sA_, sB_, sC_]
  refine stepH 3 (by kernel_rfl) rfl (fun K hK => ?_)
  go_simp
  refine (orows_any ⟨D0, r0, s0, D1, r1, s1, D2, r2, s2, D3, r3, s3, D4, r4, s4, D5, r5, s5⟩ x HOK.out h8 g m _ A n c ms w2.drew (HX2.out.up HB4.out) (HG.out.below HB4.out HG.out.lt) (HR.out.up HB4.out) ((HM2.out.below HB4.out (Nat.le_refl _)).more HB4.out.size) (by have := HL.out; have := HML.out; omega) HMI.out).mono ?_
  rintro e w8 ⟨hb8, A8, c8, rfl, hrm, -⟩
  have HB8 : Hid (Below w2.heap.size w2 w8) := Lib.hid (HB4.out.trans (hb8.mono HB4.out.size))
  have HRM := Lib.hid hrm
  clear hb8 hrm
  go_simp
  refine hK.out _ _ ?_ (fun hHeld => ?_)
  ·exact HB8.out
  clear hK K
  try simp only [Act.put, sA_, sB_, sC_]
  refine stepH 4 (by kernel_rfl) rfl (fun K hK => ?_)
  go_simp
  refine (rank_m A8 ms.length c8 _ _ _ w8 HRM.out (rk_ok HOK.out h8 HL.out HMI.out)).mono ?_
  rintro e w9 ⟨rfl, hb9⟩
  have HB9 : Hid (Below w2.heap.size w2 w9) := Lib.hid (HB8.out.trans (hb9.mono HB8.out.size))
  clear hb9
  go_simp
  refine hK.out _ _ ?_ (fun hHeld => ?_)
  ·exact HB9.out
  clear hK K
  try simp only [Act.put, sA_, sB_, sC_]
  refine tkH 10 rfl (by intro w' _ hcc; go_simp <;> with_reducible rfl) hHeld ?_
  try simp only [Act.put, sA_, sB_, sC_]
  refine tkH 11 rfl (by intro w' _ hcc; go_simp <;> with_reducible rfl) hHeld ?_
  try simp only [Act.put, sA_, sB_, sC_]
  refine wpAnyH_done (by kernel_rfl) ?_ _
  refine lastQ_go (by rfl) ?_
  clear hHeld
  clear y0 y1 y2 y3 y4 y5 nf nlt g6 gl
  go_wp2_with fail
  refine bodyPost_ret (v := .tuple #[.int .i64 (rankR (rowsR x ms) : Int), .int .i64 (m.n6 : Int), .int .i64 0]) (by simp [results, Tryz.results28, go_sem]) rfl ⟨by rw [HRE.out, HN6.out], HK.out.trans ((HB2.out.trans (HB9.out.mono HB2.out.size)).mono HSZ.out)⟩
 ·have hckB : (ck != 0) = true := by simp [hck]
  have HRE : Hid (ra = (0, 0, ck)) := Lib.hid (by rw [HRA.out, if_neg hck])
  go_wp2_with fail
  refine bodyPost_ret (v := .tuple #[.int .i64 0, .int .i64 0, .int .i64 ck]) (by simp [results, Tryz.results28, go_sem]) rfl ⟨by rw [HRE.out], HK.out.trans (HB1.out.mono HSZ.out)⟩
end
section
open Go.ChangeShapes Go.WideShapes Go.ChangeAt Go.RowKit
attribute [local go_sem ↓] execOp_call_val
attribute [local go_sem] callVal_func setCell_drewN alloc_drewN sEq_walk
def critR (M : List (List Rat)) : List Nat := (List.range M.length).filter fun k => decide (rankR (cutAtK M k) < rankR M)
theorem critR_snoc {M : List (List Rat)} {k : Nat} : ((List.range (k + 1)).filter fun k => decide (rankR (cutAtK M k) < rankR M)) = ((List.range k).filter fun k => decide (rankR (cutAtK M k) < rankR M)) ++ (if rankR (cutAtK M k) < rankR M then [k] else []) := by
 rw [List.range_succ, List.filter_append]
 congr 1
 by_cases h : rankR (cutAtK M k) < rankR M
 ·simp [h]
 ·simp [h]
theorem cut_ok {M : List (List Rat)} {N b : Nat} (h : RkOk M N b) (k : Nat) : RkOk (cutAtK M k) N b := by
 refine ⟨fun a ha => h.wid a (cutAtK_mem ha), fun a ha => h.bd a (cutAtK_mem ha), h.sz, ?_, h.n⟩
 refine Nat.le_trans ?_ h.len
 unfold cutAtK
 rw [List.length_append, List.length_take, List.length_drop]; have := h.len; omega
end
section
open Go.ChangeShapes Go.WideShapes Go.ChangeAt Go.RowKit
theorem wrap_i64 {x : Int} (h1 : -9223372036854775808 ≤ x) (h2 : x ≤ 9223372036854775807) : IntKind.i64.wrap x = x := Go.IntWalk.i64_in _ (by omega)
theorem ite_go {c : Bool} {p q : Prop} (h : c = true) (hp : p) : if c = true then p else q := by rw [if_pos h]; exact hp
theorem wp_appRows {o : Oper} {a : Act} {w : World} {K : Act → World → Prop} {Q : Exit → Act → World → Prop} (s x : Operand) (t : TypeId)
    (ho : o.op = .call { callee := .builtin .append, args := #[s, x], argTypes := #[t, t] }) (base : Nat) (ht : Tryz.prog.underlying t = some (.slice 103))
    (v : Value) (hs : List Hd) (hsv : a.eval s = v) (hown : OwnS NoI w base 103 1 v hs.length (hs.map Hd.val))
    (A : Option Addr) (m c : Nat) (h2 : List Hd) (hm : h2.length = m) (hx : a.eval x = .slice A m c) (hr : Rd w w.heap.size 1 A m (h2.map Hd.val)) (h63 : hs.length + m ≤ 1000000000) (hbase : base ≤ w.heap.size) (N : Nat) (hN : (hs ++ h2).length = N)
    (h : ∀ A' c' w', OwnS NoI w' base 103 1 (.slice A' N c') (hs ++ h2).length ((hs ++ h2).map Hd.val) → Below base w w' → Keeps NoI base 103 w w' → K (a.put o.dst (.slice A' N c')) w') : o.wp Tryz.prog a w K Q := by
 obtain ⟨i0, hi0, hz0, hz1, hz2⟩ := info_parts info_rw
 subst hm
 refine wp_appR (S := NoI) s x t ho base 103 i0 _ 1 24 ht hi0 hz0 hz1 hz2 rfl (by omega) (fun u hu => ?_) v hs.length (hs.map Hd.val) hsv hown A h2.length c (h2.map Hd.val) hx hr (hd_noI h2) (by simp only [maxLen]; omega) (by omega) hbase fun v' w' k1 k2 _ _ => ?_
 ·have hu' : u ∈ [Value.slice none 0 0] := hu
  rw [List.mem_singleton.1 hu']
  exact fun k x h => by cases h
 ·rw [← List.map_append, ← List.length_append] at k1
  obtain ⟨A', c', e, _⟩ := k1.shape
  subst e
  subst hN
  exact h A' c' w' k1 k2.low k2
theorem Hds.snoc {w : World} {hs : List Hd} {M : List (List Rat)} (h : Hds w hs M) {z : Hd} {q : List Rat} (hz : RdQ w w.heap.size z.A z.n q ∧ z.n ≤ z.c ∧ z.c ≤ maxLen) : Hds w (hs ++ [z]) (M ++ [q]) := by
 refine ⟨by rw [List.length_append, List.length_append, h.1]; rfl, fun i a p hh hq => ?_⟩
 by_cases hi : i < M.length
 ·rw [List.getElem?_append_left hi] at hq
  rw [List.getElem?_append_left (by rw [h.1]; exact hi)] at hh
  exact h.2 _ _ _ hh hq
 ·rw [List.getElem?_append_right (by omega)] at hq
  rw [List.getElem?_append_right (by rw [h.1]; omega), h.1] at hh
  have hi2 := (List.getElem?_eq_some_iff.1 hq).1
  rw [List.length_singleton] at hi2
  have : i - M.length = 0 := by omega
  rw [this] at hq hh
  simp at hq hh
  subst hq; subst hh
  exact hz
theorem Hds.rdM {w0 w' : World} {base : Nat} {v : Value} {hs : List Hd} {M : List (List Rat)} (h : Hds w0 hs M) (hb : Below w0.heap.size w0 w') (own : OwnS NoI w' base 103 1 v hs.length (hs.map Hd.val)) : ∃ A c, v = .slice A M.length c ∧ RdM w' w'.heap.size A M.length M ∧ M.length ≤ c ∧ c ≤ maxLen := rdM_own hb h.1 h.2 own
theorem Hds.rdM2 {w0 w' : World} {base : Nat} {A : Option Addr} {n c : Nat} {hs : List Hd} {M : List (List Rat)} (h : Hds w0 hs M) (hb : Below w0.heap.size w0 w') (own : OwnS NoI w' base 103 1 (.slice A n c) hs.length (hs.map Hd.val)) : RdM w' w'.heap.size A n M ∧ n ≤ c ∧ c ≤ maxLen := by
 obtain ⟨A', c', e, h1, h2, h3⟩ := h.rdM hb own
 injection e with e1 e2 e3
 subst e1; subst e2; subst e3
 exact ⟨h1, h2, h3⟩
end
end Go.Proofs.YtakllkkmofdpaaaGreatDoor
