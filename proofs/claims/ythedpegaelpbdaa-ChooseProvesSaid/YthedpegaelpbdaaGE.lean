/- Edges and fields of package choose in memory; choose.room. -/
import Derived.Test.YthedpegaelpbdaaN0
import Derived.Test.YthedpegaelpbdaaG0
namespace Go.Proofs.Ythedpegaelpbdaa
open Go.ChangeShapes Go.WideShapes Go.ChangeAt Go.RowKit
set_option linter.unusedVariables false
attribute [local go_sem ↓] execOp_call_val
attribute [local go_sem] callVal_func setCell_drewN alloc_drewN

def Ed.cells (e : Ed) : List Value := [.int .i64 e.a, .int .i64 e.b, .string e.name, .bool e.brk, .int .i64 e.fl]
def edV (e : Ed) : Array Value := #[.int .i64 e.a, .int .i64 e.b, .string e.name, .bool e.brk, .int .i64 e.fl]
theorem Ed.len (e : Ed) : e.cells.length = 5 := rfl
def RdEd (w : World) (B : Nat) (A : Option Addr) (n : Nat) (es : List Ed) : Prop := es.length = n ∧ Rd w B 5 A n (es.flatMap Ed.cells)
theorem RdEd.below {w w' : World} {B B' n : Nat} {A : Option Addr} {xs : List Ed} (h : RdEd w B A n xs) (hb : Below B' w w') (hB : B ≤ B') : RdEd w' B A n xs := ⟨h.1, h.2.below hb hB⟩
theorem RdEd.form {w : World} {B n : Nat} {A : Option Addr} {xs : List Ed} (h : RdEd w B A n xs) (h0 : 0 < n) : ∃ b off, A = some ⟨b, off, none⟩ ∧ b < B := by
  obtain ⟨b, off, e, hlt, _⟩ := h.2.2 h0
  exact ⟨b, off, e, hlt⟩
theorem RdEd.at_ {w : World} {B n : Nat} {b off : Nat} {xs : List Ed} (h : RdEd w B (some ⟨b, off, none⟩) n xs) {i : Nat} {x : Ed} (hx : xs[i]? = some x) :
    w.cell? ⟨b, off + i * 5, none⟩ = some (.int .i64 x.a) ∧ w.cell? ⟨b, off + i * 5 + 1, none⟩ = some (.int .i64 x.b) ∧ w.cell? ⟨b, off + i * 5 + 2, none⟩ = some (.string x.name) ∧ w.cell? ⟨b, off + i * 5 + 3, none⟩ = some (.bool x.brk) ∧ w.cell? ⟨b, off + i * 5 + 4, none⟩ = some (.int .i64 x.fl) := by
  have hl : i < xs.length := (List.getElem?_eq_some_iff.1 hx).1
  have h1 := h.1
  obtain ⟨b', off', e, _, hc⟩ := h.2.2 (by omega)
  injection e with e
  injection e with e1 e2
  subst e1; subst e2
  have key : ∀ k, k < 5 → ∀ u, x.cells[k]? = some u → w.cell? ⟨b, off + i * 5 + k, none⟩ = some u := fun k hk u hu => by
    have := hc (i * 5 + k) u (by rw [flat_at Ed.len xs i x hx k hk]; exact hu)
    rwa [← Nat.add_assoc] at this
  exact ⟨key 0 (by omega) _ rfl, key 1 (by omega) _ rfl, key 2 (by omega) _ rfl, key 3 (by omega) _ rfl, key 4 (by omega) _ rfl⟩
theorem Ed.box {w : World} {p : Nat} {t : TypeId} {x : Ed} (h : Blk w p t (edV x)) : w.cell? ⟨p, 0, none⟩ = some (.int .i64 x.a) ∧ w.cell? ⟨p, 1, none⟩ = some (.int .i64 x.b) ∧ w.cell? ⟨p, 2, none⟩ = some (.string x.name) ∧ w.cell? ⟨p, 3, none⟩ = some (.bool x.brk) ∧ w.cell? ⟨p, 4, none⟩ = some (.int .i64 x.fl) :=
  ⟨h.cell 0, h.cell 1, h.cell 2, h.cell 3, h.cell 4⟩
set_option maxHeartbeats 1000000 in
theorem room_any (f : Value) (e : Ed) (u : Nat) (hl : -100000 ≤ e.fl ∧ e.fl ≤ 100000) (w : World) :
    Calls Try.prog 83 #[f, .agg (edV e), .int .i64 u] w fun r w' => r = .returned (.int .i64 (e.room u)) ∧ w' = w.alloc (.cells (edV e) 104) := by
  obtain ⟨c0, c1, c2, c3, c4⟩ := Ed.box (x := e) (Blk.new w 104 (edV e))
  have HR : Hid (e.room u = if e.brk then 1 - (if u = e.b then -e.fl else e.fl) else 1000 - (if u = e.b then -e.fl else e.fl)) := Lib.hid rfl
  have h0 := hl.1
  have h1 := hl.2
  generalize hW : w.alloc (.cells (edV e) 104) = W at *
  have HW := Lib.hid hW
  have hn : IntKind.i64.wrap (-e.fl) = -e.fl := IntWalk.i64_in _ (by omega)
  have hs1 : IntKind.i64.wrap (1 - e.fl) = 1 - e.fl := IntWalk.i64_in _ (by omega)
  have hs2 : IntKind.i64.wrap (1 - -e.fl) = 1 - -e.fl := IntWalk.i64_in _ (by omega)
  have hs3 : IntKind.i64.wrap (1000 - e.fl) = 1000 - e.fl := IntWalk.i64_in _ (by omega)
  have hs4 : IntKind.i64.wrap (1000 - -e.fl) = 1000 - -e.fl := IntWalk.i64_in _ (by omega)
  by_cases hu : u = e.b
  · have hub : ((u : Int) == (e.b : Int)) = true := by simp; omega
    cases hb : e.brk with
    | true =>
      rw [hb] at c3
      go_enter Try.func83, Try.ntmps83
      go_wp2_with fail
      go_ret
      exact ⟨ret_int (by rw [HR.out, hb, if_pos rfl, if_pos hu]; omega), rfl⟩
    | false =>
      rw [hb] at c3
      go_enter Try.func83, Try.ntmps83
      go_wp2_with fail
      go_ret
      exact ⟨ret_int (by rw [HR.out, hb, if_neg (by simp), if_pos hu]; omega), rfl⟩
  · have hub : ((u : Int) == (e.b : Int)) = false := by simp; omega
    cases hb : e.brk with
    | true =>
      rw [hb] at c3
      go_enter Try.func83, Try.ntmps83
      go_wp2_with fail
      go_ret
      exact ⟨ret_int (by rw [HR.out, hb, if_pos rfl, if_neg hu]), rfl⟩
    | false =>
      rw [hb] at c3
      go_enter Try.func83, Try.ntmps83
      go_wp2_with fail
      go_ret
      exact ⟨ret_int (by rw [HR.out, hb, if_neg (by simp), if_neg hu]), rfl⟩
end Go.Proofs.Ythedpegaelpbdaa
