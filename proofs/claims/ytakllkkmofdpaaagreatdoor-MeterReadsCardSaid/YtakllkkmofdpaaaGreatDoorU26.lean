import Derived.Test.YtakllkkmofdpaaaGreatDoorU16
import Derived.Test.YtakllkkmofdpaaaGreatDoorU21
set_option linter.unusedVariables false
set_option linter.unusedSimpArgs false
namespace Go.Proofs.YtakllkkmofdpaaaGreatDoor
section
open Go.ChangeShapes Go.WideShapes Go.ChangeAt Go.RowKit Go.Joins
theorem wpList_appQ {ops : Array Oper} {rest : List Oper} {o : Oper} {a : Act} {Q : Exit → Act → World → Prop} {w : World} {T : TypeId} (hgd : o.guard = none) (s x : Operand) (t : TypeId)
    (ho : o.op = .call { callee := .builtin .append, args := #[s, x], argTypes := #[t, t] }) (base : Nat)
    (ht : Tryz.prog.underlying t = some (.slice 93))
    (v : Value) (vs : List Rv) (qs : List Rat) (hs : a.eval s = v) (hown : OwnQ w base v vs qs) (u : Rv) (q : Rat) (hq : RtV w w.heap.size q u)
    (hx : a.eval x = .slice (some ⟨w.heap.size, 0, none⟩) 1 1) (h63 : qs.length ≤ 1000000000000) (hbase : base ≤ w.heap.size)
    (h : ∀ v' w', OwnQ w' base v' (vs ++ [u]) (qs ++ [q]) → Keeps NoI base 93 (w.alloc (.cells #[.bool u.b1, .slice u.A u.n u.c, .bool u.b2, .slice u.A2 u.m u.d] T)) w' → Below base w w' → wpList Tryz.prog ops Q rest (a.put o.dst v') w') :
    wpList Tryz.prog ops Q (o :: rest) a (w.alloc (.cells #[.bool u.b1, .slice u.A u.n u.c, .bool u.b2, .slice u.A2 u.m u.d] T)) := by
 obtain ⟨i0, hi0, hz0, hz1, hz2⟩ := rat_parts
 have hl := hown.len
 refine wpList_appS (S := NoI) hgd s x t ho base 93 i0 _ 4 64 ht hi0 hz0 hz1 hz2 rfl (by omega) zr_noI v vs.length (rvs vs) hs hown.own hx rfl (rv_noI u) (by simp only [maxLen]; omega) (by omega) hbase fun v' w' h1 h2 _ => ?_
 have hb : Below w.heap.size w (w.alloc (.cells #[.bool u.b1, .slice u.A u.n u.c, .bool u.b2, .slice u.A2 u.m u.d] T)) := (Below.refl _ _).alloc (Nat.le_refl _) _
 exact h v' w' (OwnQ.app (hown.keep hb) (hq.up hb) h1 h2) h2 ((hb.mono hbase).trans h2.low)
end
section
open Go.ChangeShapes Go.WideShapes Go.ChangeAt Go.RowKit Go.Joins
section
variable {P : Program}
theorem append_others {S : Value → Prop} (w : World) (base : Nat) (t ty e : TypeId) (i : TypeInfo) (z : Value) (size bytes : Nat) (ht : P.underlying t = some (.slice e)) (hi : P.info? e = some i) (hz : i.zero = some z)
    (hsize : i.size = size) (hby : i.bytes = bytes)
    (v : Value) (n : Nat) (xs : List Value) (hown : OwnS S w base e size v n xs)
    (a : Addr) (m c : Nat) (news : List Value) (hl : news.length = m * size) (hnews : ∀ j u, news[j]? = some u → w.cell? (a.add j) = some u) (h1 : ∀ u ∈ news, u.oneCell' = true)
    (h63 : n + m ≤ maxLen) (hbytes : (n + m) * bytes ≤ 140737488355328) (hm : 0 < m) {v' : Value} {w' : World}
    (hr' : (Builtin.append_ #[t, t] ty #[v, .slice (some a) m c]).run P w = .ok v' w') : ∀ k, k < w.heap.size → v.ownBlock ≠ some k → w'.heap[k]? = w.heap[k]? := by
 subst hsize
 subst hby
 have hsmall : n + m ≤ 9223372036854775807 := by simp only [maxLen] at h63; omega
 rcases hown.2 with ⟨rfl, rfl⟩ | ⟨g, cap, cur, rfl, hbg, hg, hnc, hcm, hcs, htake, hS⟩
 ·have hr := run_append_nil (P := P) w t ty e i z ht hi hz a m c news hl hnews hm (by omega) (by have hb := hbytes; rw [Nat.zero_add] at hb; omega)
  rw [hr'] at hr
  injection hr with _ hr
  subst hr
  intro k hk _
  exact heap_alloc_old w.drew _ hk
 ·by_cases hroom : n + m ≤ cap
  ·have hfit : n * i.size + news.length ≤ cur.size := by rw [hl, hcs, ← Nat.add_mul]; exact Nat.mul_le_mul_right _ hroom
   have hr := run_append_room (P := P) w t ty e i ht hi g n cap cur hg a m c news hl hnews (fun u hu => h1 u hu) hroom hfit
   rw [hr'] at hr
   injection hr with _ hr
   subst hr
   intro k hk hne
   exact setRow_other w g k _ (fun e => hne (by rw [e]; rfl))
  ·have holds : ∀ j u, xs[j]? = some u → w.cell? ((⟨g, 0, none⟩ : Addr).add j) = some u := hown.own.cells (g := g) rfl
   have hr := run_append_grow (P := P) w t ty e i z ht hi hz ⟨g, 0, none⟩ n cap xs hown.1 holds a m c news hl hnews (by omega) (by omega) (growslice_fits (by omega) hbytes)
   rw [hr'] at hr
   injection hr with _ hr
   subst hr
   intro k hk _
   exact heap_alloc_old w.drew _ hk
theorem wp_app_blk {S : Value → Prop} {o : Oper} {a : Act} {w : World} {K : Act → World → Prop} {Q : Exit → Act → World → Prop} (s x : Operand) (t : TypeId)
    (ho : o.op = .call { callee := .builtin .append, args := #[s, x], argTypes := #[t, t] })
    (base : Nat) (e : TypeId) (i : TypeInfo) (z : Value) (size bytes : Nat) (ht : P.underlying t = some (.slice e)) (hi : P.info? e = some i) (hz : i.zero = some z)
    (hsize : i.size = size) (hby : i.bytes = bytes) (hzs : z.cells.size = size) (hsz : 0 < size) (hzS : ∀ u ∈ z.cells.toList, S u)
    (v : Value) (n : Nat) (xs : List Value) (hs : a.eval s = v) (hown : OwnS S w base e size v n xs)
    (g T : Nat) (lit : Array Value) (hx : a.eval x = .slice (some ⟨g, 0, none⟩) 1 1) (hg : Blk w g T lit) (hl : lit.size = size) (h1 : ∀ u ∈ lit.toList, u.oneCell' = true ∧ S u)
    (h63 : n + 1 ≤ maxLen) (hbytes : (n + 1) * bytes ≤ 140737488355328) (hbase : base ≤ w.heap.size)
    (h : ∀ v' w', OwnS S w' base e size v' (n + 1) (xs ++ lit.toList) → Keeps S base e w w' → (v'.ownBlock = v.ownBlock ∨ v'.ownBlock = some w.heap.size) → (∀ k, k < w.heap.size → v.ownBlock ≠ some k → w'.heap[k]? = w.heap[k]?) → K (a.put o.dst v') w') :
    o.wp P a w K Q := by
 have hn : ∀ j u, lit.toList[j]? = some u → w.cell? ((⟨g, 0, none⟩ : Addr).add j) = some u := fun j u hu => by
  rw [Addr.add_lit, Nat.zero_add, hg.cell j]
  simpa using hu
 have hll : lit.toList.length = 1 * size := by rw [Array.length_toList, hl, Nat.one_mul]
 obtain ⟨v', w', g1, g2, g3, g4⟩ := run_append_S (P := P) w base t o.type e i z size bytes ht hi hz hsize hby hzs hsz hzS v n xs hown ⟨g, 0, none⟩ 1 1 lit.toList hll hn h1 h63 hbytes hbase (by decide)
 have g5 := append_others (P := P) w base t o.type e i z size bytes ht hi hz hsize hby v n xs hown ⟨g, 0, none⟩ 1 1 lit.toList hll hn (fun u hu => (h1 u hu).1) h63 hbytes (by decide) g1
 unfold Oper.wp execOp
 simp only [ho, resolve, invoke, builtin, Sem.run_bind, Sem.run_pure, Result.andThen_ok, List.map_toArray, List.map_cons, List.map_nil, hs, hx, g1]
 exact h v' w' g2 g3 g4 g5
theorem wp_app_blk2 {S : Value → Prop} {o : Oper} {a : Act} {w : World} {K : Act → World → Prop} {Q : Exit → Act → World → Prop} (s x : Operand) (t : TypeId)
    (ho : o.op = .call { callee := .builtin .append, args := #[s, x], argTypes := #[t, t] })
    (base : Nat) (e : TypeId) (i : TypeInfo) (z : Value) (size bytes : Nat) (ht : P.underlying t = some (.slice e)) (hi : P.info? e = some i) (hz : i.zero = some z)
    (hsize : i.size = size) (hby : i.bytes = bytes) (hzs : z.cells.size = size) (hsz : 0 < size) (hzS : ∀ u ∈ z.cells.toList, S u)
    (v : Value) (n : Nat) (xs : List Value) (hs : a.eval s = v) (hown : OwnS S w base e size v n xs)
    (g T : Nat) (lit : Array Value) (hx : a.eval x = .slice (some ⟨g, 0, none⟩) 1 1) (hg : Blk w g T lit) (hl : lit.size = size) (h1 : ∀ u ∈ lit.toList, u.oneCell' = true ∧ S u)
    (h63 : n + 1 ≤ maxLen) (hbytes : (n + 1) * bytes ≤ 140737488355328) (hbase : base ≤ w.heap.size)
    (h : ∀ A m c w', OwnS S w' base e size (.slice A m c) (n + 1) (xs ++ lit.toList) → Keeps S base e w w' → ((Value.slice A m c).ownBlock = v.ownBlock ∨ (Value.slice A m c).ownBlock = some w.heap.size) → (∀ k, k < w.heap.size → v.ownBlock ≠ some k → w'.heap[k]? = w.heap[k]?) → K (a.put o.dst (.slice A m c)) w') :
    o.wp P a w K Q :=
 wp_app_blk s x t ho base e i z size bytes ht hi hz hsize hby hzs hsz hzS v n xs hs hown g T lit hx hg hl h1 h63 hbytes hbase fun v' w' q1 q2 q3 q4 => by
  obtain ⟨A, c, hv, _⟩ := q1.shape
  subst hv
  exact h A _ c w' q1 q2 q3 q4
end
theorem OwnS.lt {S : Value → Prop} {w : World} {base e size n : Nat} {v : Value} {xs : List Value} (h : OwnS S w base e size v n xs) {k : Nat} (hk : v.ownBlock = some k) : base ≤ k ∧ k < w.heap.size := by
 rcases h.2 with ⟨h1, _⟩ | ⟨g, cap, cur, h1, h2, h3, _⟩
 ·rw [h1] at hk; cases hk
 ·rw [h1] at hk
  injection hk with hk
  subst hk
  exact ⟨h2, h3.lt⟩
theorem OwnS.apart {S : Value → Prop} {w w' : World} {base e size n : Nat} {v u : Value} {xs : List Value} (h : OwnS S w base e size u n xs) (ho : ∀ k, k < w.heap.size → v.ownBlock ≠ some k → w'.heap[k]? = w.heap[k]?) (hne : ∀ k, u.ownBlock = some k → v.ownBlock ≠ some k) : OwnS S w' base e size u n xs := by
 refine ⟨h.1, ?_⟩
 rcases h.2 with h1 | ⟨g, cap, cur, h1, h2, h3, h4⟩
 ·exact .inl h1
 ·exact .inr ⟨g, cap, cur, h1, h2, (ho g h3.lt (hne g (by rw [h1]; rfl))).trans h3, h4⟩
end
section
open Go.ChangeShapes Go.WideShapes Go.ChangeAt Go.RowKit
attribute [local go_sem ↓] execOp_call_val
attribute [local go_sem] callVal_func setCell_drewN alloc_drewN sEq_walk
structure Mi where
 kind : Int
 name : ByteArray
 txt : ByteArray
 wt : Int
def Mi.cells (x : Mi) : List Value := [.int .i64 x.kind, .string x.name, .string x.txt, .int .i64 x.wt]
def Mi.val (x : Mi) : Value := .agg #[.int .i64 x.kind, .string x.name, .string x.txt, .int .i64 x.wt]
theorem Mi.len (x : Mi) : x.cells.length = 4 := rfl
def RdMi (w : World) (B : Nat) (A : Option Addr) (n : Nat) (xs : List Mi) : Prop := xs.length = n ∧ Rd w B 4 A n (xs.flatMap Mi.cells)
theorem RdMi.below {w w' : World} {B B' n : Nat} {A : Option Addr} {xs : List Mi} (h : RdMi w B A n xs) (hb : Below B' w w') (hB : B ≤ B') : RdMi w' B A n xs := ⟨h.1, h.2.below hb hB⟩
theorem RdMi.more {w : World} {B B' n : Nat} {A : Option Addr} {xs : List Mi} (h : RdMi w B A n xs) (hB : B ≤ B') : RdMi w B' A n xs := ⟨h.1, h.2.more hB⟩
theorem RdMi.at_ {w : World} {B n : Nat} {b off : Nat} {xs : List Mi} (h : RdMi w B (some ⟨b, off, none⟩) n xs) {i : Nat} {x : Mi} (hx : xs[i]? = some x) :
    w.cell? ⟨b, off + i * 4, none⟩ = some (.int .i64 x.kind) ∧ w.cell? ⟨b, off + i * 4 + 1, none⟩ = some (.string x.name) ∧ w.cell? ⟨b, off + i * 4 + 2, none⟩ = some (.string x.txt) ∧ w.cell? ⟨b, off + i * 4 + 3, none⟩ = some (.int .i64 x.wt) := by
 have hl : i < xs.length := (List.getElem?_eq_some_iff.1 hx).1
 have h1 := h.1
 obtain ⟨b', off', e, _, hc⟩ := h.2.2 (by omega)
 injection e with e
 injection e with e1 e2
 subst e1; subst e2
 have key : ∀ k, k < 4 → ∀ u, x.cells[k]? = some u → w.cell? ⟨b, off + i * 4 + k, none⟩ = some u := fun k hk u hu => by
  have := hc (i * 4 + k) u (by rw [flat_at Mi.len xs i x hx k hk]; exact hu)
  rwa [← Nat.add_assoc] at this
 exact ⟨key 0 (by omega) _ rfl, key 1 (by omega) _ rfl, key 2 (by omega) _ rfl, key 3 (by omega) _ rfl⟩
theorem RdMi.form {w : World} {B n : Nat} {A : Option Addr} {xs : List Mi} (h : RdMi w B A n xs) (h0 : 0 < n) : ∃ b off, A = some ⟨b, off, none⟩ ∧ b < B := by
 obtain ⟨b, off, e, hlt, _⟩ := h.2.2 h0
 exact ⟨b, off, e, hlt⟩
theorem Mi.box {w : World} {p : Nat} {t : TypeId} {x : Mi} (h : Blk w p t #[.int .i64 x.kind, .string x.name, .string x.txt, .int .i64 x.wt]) : w.cell? ⟨p, 0, none⟩ = some (.int .i64 x.kind) ∧ w.cell? ⟨p, 1, none⟩ = some (.string x.name) ∧ w.cell? ⟨p, 2, none⟩ = some (.string x.txt) ∧ w.cell? ⟨p, 3, none⟩ = some (.int .i64 x.wt) ∧ (∀ i, w.frozen? ⟨p, i, none⟩ = false) ∧ p < w.heap.size :=
 ⟨h.cell 0, h.cell 1, h.cell 2, h.cell 3, h.frozen, h.lt⟩
structure Vc where
 A : Option Addr
 n : Nat
 c : Nat
 ss : List ByteArray
def Vc.cells (v : Vc) : List Value := [.slice v.A v.n v.c]
theorem Vc.len (v : Vc) : v.cells.length = 1 := rfl
def RdVc (w : World) (B : Nat) (A : Option Addr) (n : Nat) (vs : List Vc) : Prop := vs.length = n ∧ Rd w B 1 A n (vs.flatMap Vc.cells) ∧ ∀ v ∈ vs, RdStr w B v.A v.n v.ss ∧ v.n ≤ 9223372036854775807
theorem RdVc.below {w w' : World} {B B' n : Nat} {A : Option Addr} {xs : List Vc} (h : RdVc w B A n xs) (hb : Below B' w w') (hB : B ≤ B') : RdVc w' B A n xs := ⟨h.1, h.2.1.below hb hB, fun v hv => ⟨(h.2.2 v hv).1.below hb hB, (h.2.2 v hv).2⟩⟩
theorem RdVc.more {w : World} {B B' n : Nat} {A : Option Addr} {xs : List Vc} (h : RdVc w B A n xs) (hB : B ≤ B') : RdVc w B' A n xs := ⟨h.1, h.2.1.more hB, fun v hv => ⟨(h.2.2 v hv).1.more hB, (h.2.2 v hv).2⟩⟩
theorem RdVc.form {w : World} {B n : Nat} {A : Option Addr} {xs : List Vc} (h : RdVc w B A n xs) (h0 : 0 < n) : ∃ b off, A = some ⟨b, off, none⟩ ∧ b < B := by
 obtain ⟨b, off, e, hlt, _⟩ := h.2.1.2 h0
 exact ⟨b, off, e, hlt⟩
theorem RdVc.at_ {w : World} {B n : Nat} {b off : Nat} {xs : List Vc} (h : RdVc w B (some ⟨b, off, none⟩) n xs) {i : Nat} {x : Vc} (hx : xs[i]? = some x) : w.cell? ⟨b, off + i, none⟩ = some (.slice x.A x.n x.c) := by
 have hl : i < xs.length := (List.getElem?_eq_some_iff.1 hx).1
 have h1 := h.1
 obtain ⟨b', off', e, _, hc⟩ := h.2.1.2 (by omega)
 injection e with e
 injection e with e1 e2
 subst e1; subst e2
 have := flat_at Vc.len xs i x hx 0 (by decide)
 rw [Nat.mul_one, Nat.add_zero] at this
 exact hc i _ this
end
section
open Go.ChangeShapes Go.WideShapes Go.ChangeAt Go.RowKit Go.Joins Go.Deep Go.Maps
attribute [local go_sem ↓] execOp_call_val
attribute [local go_sem] callVal_func setCell_drewN alloc_drewN sEq_walk
theorem grown_refl (w : World) (row : Option Nat) : w.grownBy w row := ⟨rfl, rfl, rfl, Nat.le_refl _, fun _ _ _ => rfl⟩
theorem Ck.start {w : World} {b : Nat} {h : NetH} {x : Net} (hS : SeenM w b 0 []) (r : RdNet w w.heap.size h x) : Ck w w b h.A0 h.n0 x.nodes h x [] := ⟨grown_refl _ _, hS, r.r0, r⟩
set_option maxRecDepth 100000 in
set_option maxHeartbeats 2000000 in
theorem check_large (h : NetH) (x : Net) (w : World) (r : RdNet w w.heap.size h x) (hl : netLarge x) :
    Calls Tryz.prog 73 #[.agg h.cells] w fun e w' => e = .returned (.int .i64 (netCk x)) ∧ Below w.heap.size w w' := by
 have HR := Lib.hid (show netCk x = 2 by unfold netCk; rw [if_pos hl])
 have K0 : Below w.heap.size w (w.alloc (.cells h.cells 33)) := (Below.refl _ _).alloc (Nat.le_refl _) _
 have HK := Lib.hid K0
 have l0 := r.r0.1; have l1 := r.r1.1; have l2 := r.r2.1; have l3 := r.r3.1; have l4 := r.r4.1; have l5 := r.r5.1
 have i0 := r.m0; have i1 := r.m1; have i2 := r.m2; have i3 := r.m3; have i4 := r.m4; have i5 := r.m5
 unfold netLarge at hl
 rw [l0, l1, l2, l3, l4, l5] at hl
 clear K0 l0 l1 l2 l3 l4 l5 r
 obtain ⟨A0, m0, c0, A1, m1, c1, A2, m2, c2, A3, m3, c3, A4, m4, c4, A5, m5, c5⟩ := h
 dsimp only [NetH.cells] at *
 by_cases h0 : 24 < m0
 ·clear hl
  go_enter Tryz.func73, Tryz.ntmps73
  go_wp2_with fail
  go_ret
  exact ⟨ret_int HR.out.symm, HK.out⟩
 ·skip
  by_cases h1 : 32 < m1
  ·clear hl
   go_enter Tryz.func73, Tryz.ntmps73
   go_wp2_with fail
   go_ret
   exact ⟨ret_int HR.out.symm, HK.out⟩
  ·skip
   by_cases h2 : 24 < m2
   ·clear hl
    go_enter Tryz.func73, Tryz.ntmps73
    go_wp2_with fail
    go_ret
    exact ⟨ret_int HR.out.symm, HK.out⟩
   ·skip
    by_cases h3 : 10 < m3
    ·clear hl
     go_enter Tryz.func73, Tryz.ntmps73
     go_wp2_with fail
     go_ret
     exact ⟨ret_int HR.out.symm, HK.out⟩
    ·skip
     by_cases h4 : 12 < m4
     ·clear hl
      go_enter Tryz.func73, Tryz.ntmps73
      go_wp2_with fail
      go_ret
      exact ⟨ret_int HR.out.symm, HK.out⟩
     ·skip
      have h5 : 4 < m5 := by omega
      clear hl
      go_enter Tryz.func73, Tryz.ntmps73
      go_wp2_with fail
      go_ret
      exact ⟨ret_int HR.out.symm, HK.out⟩
set_option maxRecDepth 100000 in
set_option maxHeartbeats 8000000 in
theorem check_small (h : NetH) (x : Net) (w : World) (r : RdNet w w.heap.size h x) (hl : ¬ netLarge x) :
    Calls Tryz.prog 73 #[.agg h.cells] w fun e w' => e = .returned (.int .i64 (netCk x)) ∧ Below w.heap.size w w' := by
 have HW0 : Hid (netCk x = ck0 x) := Lib.hid (by unfold netCk; rw [if_neg hl])
 have l0 := r.r0.1; have l1 := r.r1.1; have l2 := r.r2.1; have l3 := r.r3.1; have l4 := r.r4.1; have l5 := r.r5.1
 unfold netLarge at hl
 rw [l0, l1, l2, l3, l4, l5] at hl
 obtain ⟨A0, m0, c0, A1, m1, c1, A2, m2, c2, A3, m3, c3, A4, m4, c4, A5, m5, c5⟩ := h
 dsimp only [NetH.cells] at *
 have hm0' : m0 ≤ 24 := by omega
 have hm1 : m1 ≤ 32 := by omega
 have hm2 : m2 ≤ 24 := by omega
 have hm3 : m3 ≤ 10 := by omega
 have hm4 : m4 ≤ 12 := by omega
 have hm5 : m5 ≤ 4 := by omega
 have hm0 : m0 ≤ 9223372036854775807 := by omega
 clear hl l0 l1 l2 l3 l4 l5
 generalize hnd : x.nodes = nodes
 have HND := Lib.hid hnd
 have K1 : Below w.heap.size w (((w.alloc (.cells #[.slice A0 m0 c0, .slice A1 m1 c1, .slice A2 m2 c2, .slice A3 m3 c3, .slice A4 m4 c4, .slice A5 m5 c5] 33)).alloc (.map #[] 0)).alloc (.cells #[.map (some (w.heap.size + 1)), .slice A0 m0 c0] 161)) := (((Below.refl _ _).alloc (Nat.le_refl _) _).alloc (by simp) _).alloc (by simp; omega) _
 have hb2 : Below (w.heap.size + 1 + 1) ((w.alloc (.cells #[.slice A0 m0 c0, .slice A1 m1 c1, .slice A2 m2 c2, .slice A3 m3 c3, .slice A4 m4 c4, .slice A5 m5 c5] 33)).alloc (.map #[] 0)) (((w.alloc (.cells #[.slice A0 m0 c0, .slice A1 m1 c1, .slice A2 m2 c2, .slice A3 m3 c3, .slice A4 m4 c4, .slice A5 m5 c5] 33)).alloc (.map #[] 0)).alloc (.cells #[.map (some (w.heap.size + 1)), .slice A0 m0 c0] 161)) := (Below.refl _ _).alloc (by simp) _
 have hS0 : SeenM (((w.alloc (.cells #[.slice A0 m0 c0, .slice A1 m1 c1, .slice A2 m2 c2, .slice A3 m3 c3, .slice A4 m4 c4, .slice A5 m5 c5] 33)).alloc (.map #[] 0)).alloc (.cells #[.map (some (w.heap.size + 1)), .slice A0 m0 c0] 161)) (w.heap.size + 1) 0 [] := by
  have h0 := SeenM.made (w.alloc (.cells #[.slice A0 m0 c0, .slice A1 m1 c1, .slice A2 m2 c2, .slice A3 m3 c3, .slice A4 m4 c4, .slice A5 m5 c5] 33))
  have h1 := h0.below ((Below.refl _ _).alloc (Nat.le_refl _) (.cells #[.map (some (w.heap.size + 1)), .slice A0 m0 c0] 161))
  simpa using h1
 have HC := Lib.hid (Ck.start hS0 (r.up K1))
 have HQ2 : Hid (Blk (((w.alloc (.cells #[.slice A0 m0 c0, .slice A1 m1 c1, .slice A2 m2 c2, .slice A3 m3 c3, .slice A4 m4 c4, .slice A5 m5 c5] 33)).alloc (.map #[] 0)).alloc (.cells #[.map (some (w.heap.size + 1)), .slice A0 m0 c0] 161)) w.heap.size 33 #[.slice A0 m0 c0, .slice A1 m1 c1, .slice A2 m2 c2, .slice A3 m3 c3, .slice A4 m4 c4, .slice A5 m5 c5]) := Lib.hid (((Blk.new w _ _).alloc _).alloc _)
 have HQ1 : Hid (Blk (((w.alloc (.cells #[.slice A0 m0 c0, .slice A1 m1 c1, .slice A2 m2 c2, .slice A3 m3 c3, .slice A4 m4 c4, .slice A5 m5 c5] 33)).alloc (.map #[] 0)).alloc (.cells #[.map (some (w.heap.size + 1)), .slice A0 m0 c0] 161)) (w.heap.size + 1 + 1) 161 #[.map (some (w.heap.size + 1)), .slice A0 m0 c0]) := Lib.hid (Blk.new_ (by simp))
 have HNET := Lib.hid HC.out.net
 have HBELOW : Hid (∀ {w' : World}, (((w.alloc (.cells #[.slice A0 m0 c0, .slice A1 m1 c1, .slice A2 m2 c2, .slice A3 m3 c3, .slice A4 m4 c4, .slice A5 m5 c5] 33)).alloc (.map #[] 0)).alloc (.cells #[.map (some (w.heap.size + 1)), .slice A0 m0 c0] 161)).grownBy w' (some (w.heap.size + 1)) → Below w.heap.size w w') :=
  Lib.hid fun hg => below_only K1 hg (by omega) (Nat.le_refl _)
 obtain ⟨y0, y1, y2, y3, y4, y5, nf, nlt⟩ := net_box (h := ⟨A0, m0, c0, A1, m1, c1, A2, m2, c2, A3, m3, c3, A4, m4, c4, A5, m5, c5⟩) HQ2.out
 rw [hnd] at HC
 clear r hnd K1 hb2 hS0
 have hmake := @run_makeMap Tryz.prog
 go_enter Tryz.func73, Tryz.ntmps73
 go_wp2_with fail
 clear hmake
 generalize hWW : (((w.alloc (.cells #[.slice A0 m0 c0, .slice A1 m1 c1, .slice A2 m2 c2, .slice A3 m3 c3, .slice A4 m4 c4, .slice A5 m5 c5] 33)).alloc (.map #[] 0)).alloc (.cells #[.map (some (w.heap.size + 1)), .slice A0 m0 c0] 161)) = W0 at *
 clear hWW
 have hlen0 : Hid (x.nodes.length = m0) := Lib.hid HNET.out.r0.1
 go_loopw [55] (fun i wr => ∃ (k : Nat) (seen0 : List ByteArray), k ≤ m0 ∧ i = .int .i64 k ∧ Ck W0 wr (w.heap.size + 1) A0 m0 nodes ⟨A0, m0, c0, A1, m1, c1, A2, m2, c2, A3, m3, c3, A4, m4, c4, A5, m5, c5⟩ x seen0 ∧ Blk wr (w.heap.size + 1 + 1) 161 #[.map (some (w.heap.size + 1)), .slice A0 m0 c0] ∧ Blk wr w.heap.size 33 #[.slice A0 m0 c0, .slice A1 m1 c1, .slice A2 m2 c2, .slice A3 m3 c3, .slice A4 m4 c4, .slice A5 m5 c5] ∧ seen0.length ≤ k ∧ ckList (fNode nodes) id [] x.nodes = ckList (fNode nodes) id seen0 (x.nodes.drop k)) (fun i _ => m0 - (intOf i).toNat)
 case atStart => exact ⟨0, [], by omega, rfl, HC.out, HQ1.out, HQ2.out, by simp, rfl⟩
 case round =>
  clear HC HQ1 HQ2 HNET
  obtain ⟨k, seen0, hk, rfl, hC, hq1, hq2, hcnt, hgo⟩ := hrel
  have HC := Lib.hid hC
  have HQ1 := Lib.hid hq1
  have HQ2 := Lib.hid hq2
  have HGO := Lib.hid hgo
  obtain ⟨g0, g1, gf, glt⟩ := check_box hq1
  obtain ⟨y0, y1, y2, y3, y4, y5, nf, nlt⟩ := net_box (h := ⟨A0, m0, c0, A1, m1, c1, A2, m2, c2, A3, m3, c3, A4, m4, c4, A5, m5, c5⟩) hq2
  have hbw := hC.sn.lt
  have HNET := Lib.hid hC.net
  clear hC hq1 hq2 hgo
  by_cases hlt : k < m0
  ·obtain ⟨z, hz⟩ : ∃ z, x.nodes[k]? = some z := ⟨_, List.getElem?_eq_getElem (by have := hlen0.out; omega)⟩
   obtain ⟨bz, oz, hA, hbz⟩ := HC.out.net.r0.form (by dsimp only; omega)
   dsimp only at hA
   subst hA
   have e0 := HC.out.net.r0.at_ hz
   have hzn := HC.out.net.z0 z (List.mem_of_getElem? hz)
   have HZ := Lib.hid (drop_cons hz)
   clear hz
   go_wp2_with fail
   refine (device_any (w.heap.size + 1) _ _ m0 c0 nodes seen0 z _ 0 0 [] _ HC.out.rn hm0 HC.out.sn (by omega) hzn (rdStr_nil _ _ _) (by omega)).mono ?_
   generalize hR : devR nodes seen0 z [] = r
   rintro e w2 ⟨rfl, hg2, hS2⟩
   have hq1 := Blk.grown HQ1.out hg2 (fun e => by injection e; omega)
   have hq2 := Blk.grown HQ2.out hg2 (fun e => by injection e; omega)
   have HG2 := Lib.hid (only_trans HC.out.gr hg2)
   have HS2 := Lib.hid hS2
   have Hg2 := Lib.hid hg2
   have HQ1' := Lib.hid hq1
   have HQ2' := Lib.hid hq2
   have HRR := Lib.hid hR
   clear hg2 hS2 hq1 hq2 hR e0
   by_cases hr0 : r = 0
   ·subst hr0
    have HC3 := Lib.hid (HC.out.put Hg2.out (HS2.out rfl))
    have hf : fNode nodes seen0 z = 0 := HRR.out
    have HF := Lib.hid hf
    clear hf
    go_wp2_with fail
    go_roundw
    case rel => exact ⟨k + 1, z :: seen0, by omega, by go_num, HC3.out, HQ1'.out, HQ2'.out, by simp; omega, by rw [HGO.out]; exact ckList_ok HZ.out HF.out⟩
    case measure => simp [intOf]; omega
   ·have hrb : (r != 0) = true := by simpa using hr0
    have hr : (ckList (fNode nodes) id [] x.nodes).1 = r := by rw [HGO.out]; exact ckList_bad HZ.out HRR.out hr0
    have HR4 := Lib.hid hr
    have HR0 := Lib.hid hr0
    clear hr hr0
    go_wp2_with fail
    go_ret
    exact ⟨ret_int (by rw [HW0.out]; unfold ck0; rw [(show fNode x.nodes = fNode nodes by rw [HND.out]), if_pos (by rw [HR4.out]; exact HR0.out), HR4.out]), HBELOW.out HG2.out⟩
  ·have hd : x.nodes.drop k = [] := by rw [List.drop_eq_nil_iff]; have := hlen0.out; omega
   have hr : ckList (fNode nodes) id [] x.nodes = (0, seen0) := by rw [HGO.out, hd]; rfl
   have HL0 := Lib.hid hr
   have hcnt0 : seen0.length ≤ m0 := by omega
   clear hd hr hcnt
   have HW1 : Hid (netCk x = ck1 x seen0) := Lib.hid (by rw [HW0.out]; unfold ck0; rw [show fNode x.nodes = fNode nodes by rw [HND.out], HL0.out]; rfl)
   go_wp2_with fail
   have hlen1 : Hid (x.sws.length = m1) := Lib.hid HNET.out.r1.1
   go_loopw [69] (fun i wr => ∃ (k : Nat) (seen1 : List ByteArray), k ≤ m1 ∧ i = .int .i64 k ∧ Ck W0 wr (w.heap.size + 1) A0 m0 nodes ⟨A0, m0, c0, A1, m1, c1, A2, m2, c2, A3, m3, c3, A4, m4, c4, A5, m5, c5⟩ x seen1 ∧ Blk wr (w.heap.size + 1 + 1) 161 #[.map (some (w.heap.size + 1)), (.slice A0 m0 c0)] ∧ Blk wr w.heap.size 33 #[.slice A0 m0 c0, .slice A1 m1 c1, .slice A2 m2 c2, .slice A3 m3 c3, .slice A4 m4 c4, .slice A5 m5 c5] ∧ seen1.length ≤ seen0.length + k ∧ ckList (fSw nodes) Sw.name seen0 x.sws = ckList (fSw nodes) Sw.name seen1 (x.sws.drop k)) (fun i _ => m1 - (intOf i).toNat)
   case atStart => exact ⟨0, seen0, by omega, rfl, HC.out, HQ1.out, HQ2.out, by omega, rfl⟩
   case round =>
    clear HC HQ1 HQ2 HNET
    obtain ⟨k, seen1, hk, rfl, hC, hq1, hq2, hcnt, hgo⟩ := hrel
    have HC := Lib.hid hC
    have HQ1 := Lib.hid hq1
    have HQ2 := Lib.hid hq2
    have HGO := Lib.hid hgo
    obtain ⟨g0, g1, gf, glt⟩ := check_box hq1
    obtain ⟨y0, y1, y2, y3, y4, y5, nf, nlt⟩ := net_box (h := ⟨A0, m0, c0, A1, m1, c1, A2, m2, c2, A3, m3, c3, A4, m4, c4, A5, m5, c5⟩) hq2
    have hbw := hC.sn.lt
    have HNET := Lib.hid hC.net
    clear hC hq1 hq2 hgo
    by_cases hlt : k < m1
    ·obtain ⟨z, hz⟩ : ∃ z, x.sws[k]? = some z := ⟨_, List.getElem?_eq_getElem (by have := hlen1.out; omega)⟩
     obtain ⟨bz, oz, hA, hbz⟩ := HC.out.net.r1.form (by dsimp only; omega)
     dsimp only at hA
     subst hA
     obtain ⟨e0, e1, e2, e3, e4⟩ := HC.out.net.r1.at_ hz
     have hzn := HC.out.net.z1 z (List.mem_of_getElem? hz)
     have HZ := Lib.hid (drop_cons hz)
     clear hz
     go_wp2_with fail
     have hB := below2 wr (.cells #[.string z.name, .string z.a, .string z.b, .bool z.breaker, .bool z.opn] 139) (.cells #[.string z.a, .string z.b] 9)
     have hE : RdStr ((wr.alloc (.cells #[.string z.name, .string z.a, .string z.b, .bool z.breaker, .bool z.opn] 139)).alloc (.cells #[.string z.a, .string z.b] 9)) ((wr.alloc (.cells #[.string z.name, .string z.a, .string z.b, .bool z.breaker, .bool z.opn] 139)).alloc (.cells #[.string z.a, .string z.b] 9)).heap.size (some ⟨wr.heap.size + 1, 0, none⟩) 2 [z.a, z.b] := rdStr_lit (zs := [z.a, z.b]) (Blk.new_ (by simp)) (by simp)
     have hC2 := HC.out.below hB
     refine (device_any (w.heap.size + 1) _ _ m0 c0 nodes seen1 z.name _ 2 2 [z.a, z.b] _ hC2.rn hm0 hC2.sn (by omega) hzn hE (by omega)).mono ?_
     generalize hR : devR nodes seen1 z.name [z.a, z.b] = r
     rintro e w2 ⟨rfl, hg2, hS2⟩
     have hq3 : Blk w2 wr.heap.size 139 #[.string z.name, .string z.a, .string z.b, .bool z.breaker, .bool z.opn] := Blk.grown ((Blk.new wr _ _).alloc _) hg2 (fun e => by injection e; omega)
     have hq1 : Blk w2 (w.heap.size + 1 + 1) 161 #[.map (some (w.heap.size + 1)), (.slice A0 m0 c0)] := Blk.grown (HQ1.out.below hB HQ1.out.lt) hg2 (fun e => by injection e; omega)
     have hq2 := Blk.grown (HQ2.out.below hB HQ2.out.lt) hg2 (fun e => by injection e; omega)
     have HG2 := Lib.hid (only_trans hC2.gr hg2)
     have HS2 := Lib.hid hS2
     have HC2 := Lib.hid hC2
     have Hg2 := Lib.hid hg2
     obtain ⟨f0, f1, f2, f3, f4, ff, flt⟩ := Sw.box hq3
     have HQ1' := Lib.hid hq1
     have HQ2' := Lib.hid hq2
     have HRR := Lib.hid hR
     clear hB hE hC2 hg2 hS2 hq3 hq1 hq2 hR e0 e1 e2 e3 e4
     by_cases hr0 : r = 0
     ·subst hr0
      have HC3 := Lib.hid (HC2.out.put Hg2.out (HS2.out rfl))
      have hf : fSw nodes seen1 z = 0 := by unfold fSw Sw.bad; rw [HRR.out]; simp []
      have HF := Lib.hid hf
      clear hf
      go_wp2_with (first | (go_at_call 138; refine (npermitted_any _ _).mono ?_; rintro e w' ⟨rfl, rfl⟩) | (go_at_call 137; refine (nout_any _ _ _ _).mono ?_; rintro e w' ⟨rfl, rfl⟩))
      go_roundw
      case rel => exact ⟨k + 1, z.name :: seen1, by omega, by go_num, HC3.out, HQ1'.out, HQ2'.out, by simp; omega, by rw [HGO.out]; exact ckList_ok HZ.out HF.out⟩
      case measure => simp [intOf]; omega
     ·have hrb : (r != 0) = true := by simpa using hr0
      have hf : fSw nodes seen1 z = r := by unfold fSw; rw [HRR.out, if_pos hr0]
      have hr : (ckList (fSw nodes) Sw.name seen0 x.sws).1 = r := by rw [HGO.out]; exact ckList_bad HZ.out hf hr0
      have HR4 := Lib.hid hr
      have HR0 := Lib.hid hr0
      clear hf hr hr0
      go_wp2_with fail
      go_ret
      exact ⟨ret_int (by rw [HW1.out]; unfold ck1; rw [HND.out, if_pos (by rw [HR4.out]; exact HR0.out), HR4.out]), HBELOW.out HG2.out⟩
    ·have hd : x.sws.drop k = [] := by rw [List.drop_eq_nil_iff]; have := hlen1.out; omega
     have hr : ckList (fSw nodes) Sw.name seen0 x.sws = (0, seen1) := by rw [HGO.out, hd]; rfl
     have HL1 := Lib.hid hr
     have hcnt1 : seen1.length ≤ seen0.length + m1 := by omega
     clear hd hr hcnt
     have hlenx := HNET
     have HW2 : Hid (netCk x = ck2 x seen1) := Lib.hid (by rw [HW1.out]; unfold ck1; rw [HND.out, HL1.out]; rfl)
     go_wp2_with fail
     have hlen2 : Hid (x.brs.length = m2) := Lib.hid HNET.out.r2.1
     go_loopw [89] (fun i wr => ∃ (k : Nat) (seen2 : List ByteArray), k ≤ m2 ∧ i = .int .i64 k ∧ Ck W0 wr (w.heap.size + 1) A0 m0 nodes ⟨A0, m0, c0, A1, m1, c1, A2, m2, c2, A3, m3, c3, A4, m4, c4, A5, m5, c5⟩ x seen2 ∧ Blk wr (w.heap.size + 1 + 1) 161 #[.map (some (w.heap.size + 1)), (.slice A0 m0 c0)] ∧ Blk wr w.heap.size 33 #[.slice A0 m0 c0, .slice A1 m1 c1, .slice A2 m2 c2, .slice A3 m3 c3, .slice A4 m4 c4, .slice A5 m5 c5] ∧ seen2.length ≤ seen1.length + k ∧ ckList (fBr nodes) Br.name seen1 x.brs = ckList (fBr nodes) Br.name seen2 (x.brs.drop k)) (fun i _ => m2 - (intOf i).toNat)
     case atStart => exact ⟨0, seen1, by omega, rfl, HC.out, HQ1.out, HQ2.out, by omega, rfl⟩
     case round =>
      clear HC HQ1 HQ2 HNET
      obtain ⟨k, seen2, hk, rfl, hC, hq1, hq2, hcnt, hgo⟩ := hrel
      have HC := Lib.hid hC
      have HQ1 := Lib.hid hq1
      have HQ2 := Lib.hid hq2
      have HGO := Lib.hid hgo
      obtain ⟨g0, g1, gf, glt⟩ := check_box hq1
      obtain ⟨y0, y1, y2, y3, y4, y5, nf, nlt⟩ := net_box (h := ⟨A0, m0, c0, A1, m1, c1, A2, m2, c2, A3, m3, c3, A4, m4, c4, A5, m5, c5⟩) hq2
      have hbw := hC.sn.lt
      have HNET := Lib.hid hC.net
      clear hC hq1 hq2 hgo
      by_cases hlt : k < m2
      ·obtain ⟨z, hz⟩ : ∃ z, x.brs[k]? = some z := ⟨_, List.getElem?_eq_getElem (by have := hlen2.out; omega)⟩
       obtain ⟨bz, oz, hA, hbz⟩ := HC.out.net.r2.form (by dsimp only; omega)
       dsimp only at hA
       subst hA
       obtain ⟨e0, e1, e2, e3, e4, e5, e6, e7, e8⟩ := HC.out.net.r2.at_ hz
       have hzn := HC.out.net.z2 z (List.mem_of_getElem? hz)
       have HZ := Lib.hid (drop_cons hz)
       clear hz
       go_wp2_with fail
       have hB := below2 wr (.cells #[.string z.name, .string z.fr, .string z.to, .int .i64 z.x, .int .i64 z.tap, .int .i64 z.shift, .int .i64 z.limit, .int .i64 z.short, .int .i64 z.hold] 70) (.cells #[.string z.fr, .string z.to] 9)
       have hE : RdStr ((wr.alloc (.cells #[.string z.name, .string z.fr, .string z.to, .int .i64 z.x, .int .i64 z.tap, .int .i64 z.shift, .int .i64 z.limit, .int .i64 z.short, .int .i64 z.hold] 70)).alloc (.cells #[.string z.fr, .string z.to] 9)) ((wr.alloc (.cells #[.string z.name, .string z.fr, .string z.to, .int .i64 z.x, .int .i64 z.tap, .int .i64 z.shift, .int .i64 z.limit, .int .i64 z.short, .int .i64 z.hold] 70)).alloc (.cells #[.string z.fr, .string z.to] 9)).heap.size (some ⟨wr.heap.size + 1, 0, none⟩) 2 [z.fr, z.to] := rdStr_lit (zs := [z.fr, z.to]) (Blk.new_ (by simp)) (by simp)
       have hC2 := HC.out.below hB
       refine (device_any (w.heap.size + 1) _ _ m0 c0 nodes seen2 z.name _ 2 2 [z.fr, z.to] _ hC2.rn hm0 hC2.sn (by omega) hzn hE (by omega)).mono ?_
       generalize hR : devR nodes seen2 z.name [z.fr, z.to] = r
       rintro e w2 ⟨rfl, hg2, hS2⟩
       have hq3 : Blk w2 wr.heap.size 70 #[.string z.name, .string z.fr, .string z.to, .int .i64 z.x, .int .i64 z.tap, .int .i64 z.shift, .int .i64 z.limit, .int .i64 z.short, .int .i64 z.hold] := Blk.grown ((Blk.new wr _ _).alloc _) hg2 (fun e => by injection e; omega)
       have hq1 : Blk w2 (w.heap.size + 1 + 1) 161 #[.map (some (w.heap.size + 1)), (.slice A0 m0 c0)] := Blk.grown (HQ1.out.below hB HQ1.out.lt) hg2 (fun e => by injection e; omega)
       have hq2 := Blk.grown (HQ2.out.below hB HQ2.out.lt) hg2 (fun e => by injection e; omega)
       have HG2 := Lib.hid (only_trans hC2.gr hg2)
       have HS2 := Lib.hid hS2
       have HC2 := Lib.hid hC2
       have Hg2 := Lib.hid hg2
       obtain ⟨f0, f1, f2, f3, f4, f5, f6, f7, f8, ff, flt⟩ := Br.box hq3
       have HQ1' := Lib.hid hq1
       have HQ2' := Lib.hid hq2
       have HRR := Lib.hid hR
       clear hB hE hC2 hg2 hS2 hq3 hq1 hq2 hR e0 e1 e2 e3 e4 e5 e6 e7 e8
       by_cases hr0 : r = 0
       ·subst hr0
        have HC3 := Lib.hid (HC2.out.put Hg2.out (HS2.out rfl))
        go_wp2_with fail
        refine (nbranch_any z _).mono ?_
        rintro e w3 ⟨rfl, k3⟩
        have HC4 := Lib.hid (HC3.out.below k3)
        have HQ1'' := Lib.hid (HQ1'.out.below k3 HQ1'.out.lt)
        have HQ2'' := Lib.hid (HQ2'.out.below k3 HQ2'.out.lt)
        have HG3 := Lib.hid (only_trans HG2.out (only_of_below k3 _))
        clear k3
        cases hbad : z.bad with
        | true =>
         have hck : z.ck = 4 := by unfold Br.ck; rw [hbad]; rfl
         have hf : fBr nodes seen2 z = 4 := by unfold fBr; rw [HRR.out, hck]; rfl
         have hr : (ckList (fBr nodes) Br.name seen1 x.brs).1 = 4 := by rw [HGO.out]; exact ckList_bad HZ.out hf (by omega)
         have HR4 := Lib.hid hr
         clear hf hr hbad
         go_wp2_with fail
         go_ret
         exact ⟨ret_int (by rw [HW2.out]; unfold ck2; rw [HND.out, if_pos (by rw [HR4.out]; omega), HR4.out]), HBELOW.out HG3.out⟩
        | false =>
         have hck : z.ck = 0 := by unfold Br.ck; rw [hbad]; rfl
         have hf : fBr nodes seen2 z = 0 := by unfold fBr; rw [HRR.out, hck]; rfl
         have HF := Lib.hid hf
         clear hf hbad
         go_wp2_with fail
         go_roundw
         case rel => exact ⟨k + 1, z.name :: seen2, by omega, by go_num, HC4.out, HQ1''.out, HQ2''.out, by simp; omega, by rw [HGO.out]; exact ckList_ok HZ.out HF.out⟩
         case measure => simp [intOf]; omega
       ·have hrb : (r != 0) = true := by simpa using hr0
        have hf : fBr nodes seen2 z = r := by unfold fBr; rw [HRR.out, if_pos hr0]
        have hr : (ckList (fBr nodes) Br.name seen1 x.brs).1 = r := by rw [HGO.out]; exact ckList_bad HZ.out hf hr0
        have HR4 := Lib.hid hr
        have HR0 := Lib.hid hr0
        clear hf hr hr0
        go_wp2_with fail
        go_ret
        exact ⟨ret_int (by rw [HW2.out]; unfold ck2; rw [HND.out, if_pos (by rw [HR4.out]; exact HR0.out), HR4.out]), HBELOW.out HG2.out⟩
      ·have hd : x.brs.drop k = [] := by rw [List.drop_eq_nil_iff]; have := hlen2.out; omega
       have hr : ckList (fBr nodes) Br.name seen1 x.brs = (0, seen2) := by rw [HGO.out, hd]; rfl
       have HL2 := Lib.hid hr
       have hcnt2 : seen2.length ≤ seen1.length + m2 := by omega
       clear hd hr hcnt
       have hlenx := HNET
       have HW3 : Hid (netCk x = ck3 x seen2) := Lib.hid (by rw [HW2.out]; unfold ck2; rw [HND.out, HL2.out]; rfl)
       go_wp2_with fail
       have hCw : Ck wr wr (w.heap.size + 1) A0 m0 nodes ⟨A0, m0, c0, A1, m1, c1, A2, m2, c2, A3, m3, c3, A4, m4, c4, A5, m5, c5⟩ x seen2 := ⟨⟨rfl, rfl, rfl, Nat.le_refl _, fun _ _ _ => rfl⟩, HC.out.sn, HC.out.rn, HC.out.net⟩
       refine (ends_any (w.heap.size + 1) _ m0 c0 nodes ⟨A0, m0, c0, A1, m1, c1, A2, m2, c2, A3, m3, c3, A4, m4, c4, A5, m5, c5⟩ x seen2 _ hCw hm0 (by omega) hm3 hm4 hm5 HND.out).mono ?_
       rintro e w4 ⟨rfl, hg4⟩
       have HG4 := Lib.hid (only_trans HC.out.gr hg4)
       clear hg4 hCw
       go_wp2_with fail
       go_ret
       exact ⟨ret_int (by rw [HW3.out]), HBELOW.out HG4.out⟩
theorem check_any (h : NetH) (x : Net) (w : World) (r : RdNet w w.heap.size h x) :
    Calls Tryz.prog 73 #[.agg h.cells] w fun e w' => e = .returned (.int .i64 (netCk x)) ∧ Below w.heap.size w w' := by
 by_cases hl : netLarge x
 ·exact check_large h x w r hl
 ·exact check_small h x w r hl
end
section
open Go
theorem stepTwo {P : Program} {md : Region.Mode} {Q : Exit → Act → World → Prop} {L : List Oper} {S : World → Prop} (i j : Nat) {o o' : Oper} {fuel : Nat} {listed : Array Bool} {a : Act} {w : World} (hr : Region.ready md L.toArray listed = [i, j]) (ho : L[i]? = some o) (ho' : L[j]? = some o')
    (h : ∀ K' : Act → World → Prop, Shut (∀ a w, S w → (S w → wpAnyH P md L.toArray Q S fuel (listed.setIfInBounds i true) a w) → K' a w) → if Region.wanted o (yielded L.toArray a.tmps) = true then Oper.wp P o a w K' Q else K' (a.put o.dst undef) w)
    (h' : ∀ K' : Act → World → Prop, Shut (∀ a w, S w → (S w → wpAnyH P md L.toArray Q S fuel (listed.setIfInBounds j true) a w) → K' a w) → if Region.wanted o' (yielded L.toArray a.tmps) = true then Oper.wp P o' a w K' Q else K' (a.put o'.dst undef) w) : wpAnyH P md L.toArray Q S (fuel + 1) listed a w :=
 wpAnyH_ready hr (by simp) (AllReadyH.cons (by rw [List.getElem?_toArray]; exact ho) h (AllReadyH.cons (by rw [List.getElem?_toArray]; exact ho') h' AllReadyH.nil))
end
end Go.Proofs.YtakllkkmofdpaaaGreatDoor
