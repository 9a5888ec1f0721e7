/- The time of a characteristic at a current. -/
import Derived.Test.YtkmhemcnpbhdfaaK2
namespace Go.Proofs.Ytkmhemcnpbhdfaa
open Go.ChangeShapes Go.WideShapes Go.ChangeAt Go.RowKit
set_option linter.unusedVariables false
attribute [local go_sem ↓] execOp_call_val
attribute [local go_sem] callVal_func setCell_drewN alloc_drewN

theorem Good.get {ps : List (Int × Int)} (h : Good ps) {i : Nat} {p : Int × Int} (hp : ps[i]? = some p) : 100 ≤ p.1 ∧ p.1 ≤ 10000 ∧ 0 ≤ p.2 ∧ p.2 ≤ 3600000 := by
  obtain ⟨a, b, r, rfl, h1, h2, h3, h4, h5, _⟩ := h
  have key : ∀ (l : List (Int × Int)) (a : Int × Int), Chain a l → ∀ (i : Nat) (p : Int × Int), l[i]? = some p → 100 ≤ p.1 ∧ p.1 ≤ 10000 ∧ 0 ≤ p.2 ∧ p.2 ≤ 3600000 := by
    intro l
    induction l with
    | nil => intro a _ i p hp; simp at hp
    | cons b r ih =>
      intro a hc i p hp
      obtain ⟨_, _, h3, h4, h5, h6, h7⟩ := hc
      cases i with
      | zero => simp at hp; subst hp; exact ⟨h3, h4, h5, h6⟩
      | succ i => exact ih b h7 i p (by simpa using hp)
  cases i with
  | zero => simp at hp; subst hp; exact ⟨h1, h2, h3, h4⟩
  | succ i => exact key _ a h5 i p (by simpa using hp)

theorem chain_next : ∀ {l : List (Int × Int)} {a : Int × Int}, Chain a l → ∀ {i : Nat} {p q : Int × Int}, (a :: l)[i]? = some q → (a :: l)[i + 1]? = some p → q.1 < p.1 ∧ p.2 ≤ q.2
  | [], _, _, i, p, q, _, h2 => by simp at h2
  | b :: r, a, hc, 0, p, q, h1, h2 => by
    simp at h1 h2; subst h1; subst h2
    exact ⟨hc.1, hc.2.1⟩
  | b :: r, a, hc, i + 1, p, q, h1, h2 => by
    exact chain_next hc.2.2.2.2.2.2 (i := i) (by simpa using h1) (by simpa using h2)
theorem Good.next_ {ps : List (Int × Int)} (h : Good ps) {i : Nat} {p q : Int × Int} (h1 : ps[i]? = some q) (h2 : ps[i + 1]? = some p) : q.1 < p.1 ∧ p.2 ≤ q.2 := by
  obtain ⟨a, b, r, rfl, _, _, _, _, h5, _⟩ := h
  exact chain_next h5 h1 h2
theorem Good.len {ps : List (Int × Int)} (h : Good ps) : 2 ≤ ps.length ∧ ps.length ≤ 32 := by
  obtain ⟨a, b, r, rfl, _, _, _, _, _, hl⟩ := h
  simp; omega

def isSome (o : Option Int) : Bool := o.isSome

theorem tm_none (b off n c : Nat) (ps : List (Int × Int)) (pk cur : Int) (w : World) (hr : RdP w w.heap.size (some ⟨b, off, none⟩) n ps) (hg : Good ps) (p1 : 1 ≤ pk) (p2 : pk ≤ 1000000) (c1 : 0 ≤ cur) (c2 : cur ≤ 1000000) (ht : tmC pk cur ps = none) :
    Calls Try.prog 50 #[.slice (some ⟨b, off, none⟩) n c, .int .i64 pk, .int .i64 cur] w fun e w' => e = .returned (.tuple #[.int .i64 0, .bool false]) ∧ w = w' := by
  have hlen := hr.len
  have hgl := hg.len
  obtain ⟨a, hp⟩ : ∃ p, ps[0]? = some p := ⟨_, List.getElem?_eq_getElem (by omega)⟩
  obtain ⟨c0, _⟩ := hr.at_ hp
  have hb := hg.get hp
  simp only [Nat.zero_mul, Nat.add_zero] at c0
  have hlt : 100 * cur < a.1 * pk := by
    obtain ⟨a', b', r, rfl, _⟩ := hg
    simp at hp; subst hp
    simp only [tmC] at ht
    split at ht
    · assumption
    · cases ht
  have hm1 : 0 ≤ a.1 * pk := Int.mul_nonneg (by omega) (by omega)
  have hm2 : a.1 * pk ≤ 10000 * 1000000 := Int.mul_le_mul (by omega) p2 (by omega) (by omega)
  have hln : 0 < n := by omega
  have HT := Lib.hid ht
  clear ht hp
  go_enter Try.func50, Try.ntmps50
  go_wp2
  go_ret2
  exact ⟨rfl, rfl⟩
end Go.Proofs.Ytkmhemcnpbhdfaa
