/- The time of a characteristic at a current. -/
import Derived.Test.YthedpegaelpbdaaK2
namespace Go.Proofs.Ythedpegaelpbdaa
open Go.ChangeShapes Go.WideShapes Go.ChangeAt Go.RowKit
set_option linter.unusedVariables false
attribute [local go_sem ↓] execOp_call_val
attribute [local go_sem] callVal_func setCell_drewN alloc_drewN

theorem Good.get {ps : List (Int × Int)} (h : Good ps) {i : Nat} {p : Int × Int} (hp : ps[i]? = some p) : 100 ≤ p.1 ∧ p.1 ≤ 10000 ∧ 0 ≤ p.2 ∧ p.2 ≤ 3600000 := by
  obtain ⟨a, b, r, rfl, h1, h2, h3, h4, h5, _⟩ := h
  have key : ∀ (l : List (Int × Int)) (a : Int × Int), Chain a l → ∀ (i : Nat) (p : Int × Int), l[i]? = some p → 100 ≤ p.1 ∧ p.1 ≤ 10000 ∧ 0 ≤ p.2 ∧ p.2 ≤ 3600000 := by
    intro l
    induction l with
    | nil => intro a _ i p hp; simp at hp
    | cons b r ih =>
      intro a hc i p hp
      obtain ⟨_, _, h3, h4, h5, h6, h7⟩ := hc
      cases i with
      | zero => simp at hp; subst hp; exact ⟨h3, h4, h5, h6⟩
      | succ i => exact ih b h7 i p (by simpa using hp)
  cases i with
  | zero => simp at hp; subst hp; exact ⟨h1, h2, h3, h4⟩
  | succ i => exact key _ a h5 i p (by simpa using hp)

theorem chain_next : ∀ {l : List (Int × Int)} {a : Int × Int}, Chain a l → ∀ {i : Nat} {p q : Int × Int}, (a :: l)[i]? = some q → (a :: l)[i + 1]? = some p → q.1 < p.1 ∧ p.2 ≤ q.2
  | [], _, _, i, p, q, _, h2 => by simp at h2
  | b :: r, a, hc, 0, p, q, h1, h2 => by
    simp at h1 h2; subst h1; subst h2
    exact ⟨hc.1, hc.2.1⟩
  | b :: r, a, hc, i + 1, p, q, h1, h2 => by
    exact chain_next hc.2.2.2.2.2.2 (i := i) (by simpa using h1) (by simpa using h2)
theorem Good.next_ {ps : List (Int × Int)} (h : Good ps) {i : Nat} {p q : Int × Int} (h1 : ps[i]? = some q) (h2 : ps[i + 1]? = some p) : q.1 < p.1 ∧ p.2 ≤ q.2 := by
  obtain ⟨a, b, r, rfl, _, _, _, _, h5, _⟩ := h
  exact chain_next h5 h1 h2
theorem Good.len {ps : List (Int × Int)} (h : Good ps) : 2 ≤ ps.length ∧ ps.length ≤ 32 := by
  obtain ⟨a, b, r, rfl, _, _, _, _, _, hl⟩ := h
  simp; omega

def isSome (o : Option Int) : Bool := o.isSome

theorem tm_none (b off n c : Nat) (ps : List (Int × Int)) (pk cur : Int) (w : World) (hr : RdP w w.heap.size (some ⟨b, off, none⟩) n ps) (hg : Good ps) (p1 : 1 ≤ pk) (p2 : pk ≤ 1000000) (c1 : 0 ≤ cur) (c2 : cur ≤ 1000000) (ht : tmC pk cur ps = none) :
    Calls Try.prog 65 #[.slice (some ⟨b, off, none⟩) n c, .int .i64 pk, .int .i64 cur] w fun e w' => e = .returned (.tuple #[.int .i64 0, .bool false]) ∧ w = w' := by
  have hlen := hr.len
  have hgl := hg.len
  obtain ⟨a, hp⟩ : ∃ p, ps[0]? = some p := ⟨_, List.getElem?_eq_getElem (by omega)⟩
  obtain ⟨c0, _⟩ := hr.at_ hp
  have hb := hg.get hp
  simp only [Nat.zero_mul, Nat.add_zero] at c0
  have hlt : 100 * cur < a.1 * pk := by
    obtain ⟨a', b', r, rfl, _⟩ := hg
    simp at hp; subst hp
    simp only [tmC] at ht
    split at ht
    · assumption
    · cases ht
  have hm1 : 0 ≤ a.1 * pk := Int.mul_nonneg (by omega) (by omega)
  have hm2 : a.1 * pk ≤ 10000 * 1000000 := Int.mul_le_mul (by omega) p2 (by omega) (by omega)
  have hln : 0 < n := by omega
  have HT := Lib.hid ht
  clear ht hp
  go_enter Try.func65, Try.ntmps65
  go_wp2
  go_ret2
  exact ⟨rfl, rfl⟩
set_option maxHeartbeats 4000000 in
theorem tm_some (b off n c : Nat) (ps : List (Int × Int)) (pk cur : Int) (a : Int × Int) (r : List (Int × Int)) (w : World) (hr : RdP w w.heap.size (some ⟨b, off, none⟩) n ps) (hg : Good ps) (p1 : 1 ≤ pk) (p2 : pk ≤ 1000000) (c1 : 0 ≤ cur) (c2 : cur ≤ 1000000)
    (hps : ps = a :: r) (hx : a.1 * pk ≤ 100 * cur) :
    Calls Try.prog 65 #[.slice (some ⟨b, off, none⟩) n c, .int .i64 pk, .int .i64 cur] w fun e w' => e = .returned (.tuple #[.int .i64 (tmGo pk (100 * cur) a r), .bool true]) ∧ Below w.heap.size w w' := by
  have hlen := hr.len
  have hgl := hg.len
  have hp : ps[0]? = some a := by rw [hps]; rfl
  obtain ⟨c0, _⟩ := hr.at_ hp
  have hb := hg.get hp
  obtain ⟨hb1, hb2, hb3, hb4⟩ := hb
  simp only [Nat.zero_mul, Nat.add_zero] at c0
  have hm1 : 0 ≤ a.1 * pk := Int.mul_nonneg (by omega) (by omega)
  have hm2 : a.1 * pk ≤ 10000 * 1000000 := Int.mul_le_mul (by omega) p2 (by omega) (by omega)
  have hln : 0 < n := by omega
  have hst : Hid (tmGo pk (100 * cur) a r = tmGo pk (100 * cur) a (ps.drop 1)) := Lib.hid (by rw [hps]; rfl)
  have HP := Lib.hid hp
  have HPS := Lib.hid hps
  clear hp hps
  go_enter Try.func65, Try.ntmps65
  go_wp2
  go_loopw [8, 9, 10] (fun i _ _ wr => ∃ (k : Nat) (q : Int × Int), 1 ≤ k ∧ k ≤ n ∧ i = .int .i64 k ∧ Below w.heap.size w wr ∧ ps[k - 1]? = some q ∧ q.1 * pk ≤ 100 * cur ∧ tmGo pk (100 * cur) a r = tmGo pk (100 * cur) q (ps.drop k)) (fun i _ _ _ => n - (intOf i).toNat)
  case atStart => exact ⟨1, a, by omega, by omega, rfl, Below.refl _ _, HP.out, hx, hst.out⟩
  case round =>
    obtain ⟨k, q, hk1, hk2, rfl, K, hq, hqx, heq⟩ := hrel
    have HEQ := Lib.hid heq
    have hqb := hg.get hq
    obtain ⟨hq1, hq2, hq3, hq4⟩ := hqb
    have hm3 : 0 ≤ q.1 * pk := Int.mul_nonneg (by omega) (by omega)
    have hm4 : q.1 * pk ≤ 10000 * 1000000 := Int.mul_le_mul (by omega) p2 (by omega) (by omega)
    obtain ⟨d0, d1⟩ := (hr.below K (Nat.le_refl _)).at_ hq
    have HQ := Lib.hid hq
    clear heq hq
    have hkN : 0 < k := by omega
    have hkI : (1 : Int) ≤ (k : Int) := by omega
    have hs1 : IntKind.i64.wrap ((k : Int) - 1) = (k : Int) - 1 := IntWalk.i64_in _ (by omega)
    have hs3 : ((k : Int) - 1).toNat = k - 1 := by omega
    have hs4 : (k : Int) - 1 < (n : Int) := by omega
    have hbl : b < wr.heap.size := by
      obtain ⟨b', off', e, hlt', _⟩ := hr.2 (by omega)
      injection e with e
      injection e with e1 e2
      have := K.size
      omega
    by_cases hlt : k < n
    · obtain ⟨p, hp⟩ : ∃ p, ps[k]? = some p := ⟨_, List.getElem?_eq_getElem (by omega)⟩
      obtain ⟨e0, e1⟩ := (hr.below K (Nat.le_refl _)).at_ hp
      have hpb := hg.get hp
      obtain ⟨hp1, hp2, hp3, hp4⟩ := hpb
      have hm5 : 0 ≤ p.1 * pk := Int.mul_nonneg (by omega) (by omega)
      have hm6 : p.1 * pk ≤ 10000 * 1000000 := Int.mul_le_mul (by omega) p2 (by omega) (by omega)
      have hnx := hg.next_ (i := k - 1) HQ.out (by rw [show k - 1 + 1 = k from by omega]; exact hp)
      obtain ⟨hn1, hn2⟩ := hnx
      have HP2 := Lib.hid hp
      clear hp
      have hdrop : ps.drop k = p :: ps.drop (k + 1) := by
        obtain ⟨hl, he⟩ := List.getElem?_eq_some_iff.1 HP2.out
        rw [List.drop_eq_getElem_cons hl, he]
      have HDR := Lib.hid hdrop
      clear hdrop
      by_cases hle : 100 * cur ≤ p.1 * pk
      · have hD : 0 < pk * (p.1 - q.1) := Int.mul_pos (by omega) (by omega)
        have hD2 : pk * (p.1 - q.1) ≤ 1000000 * 10000 := Int.mul_le_mul p2 (by omega) (by omega) (by omega)
        have hN : 0 ≤ (q.2 - p.2) * (100 * cur - q.1 * pk) := Int.mul_nonneg (by omega) (by omega)
        have hN2 : (q.2 - p.2) * (100 * cur - q.1 * pk) ≤ 3600000 * 100000000 := Int.mul_le_mul (by omega) (by omega) (by omega) (by omega)
        have hQ := (mid_bd hn1 hn2 p1 hqx hle)
        unfold mid at hQ
        obtain ⟨hQ1, hQ2⟩ := hQ
        have w1 : IntKind.i64.wrap (q.2 - p.2) = q.2 - p.2 := IntWalk.i64_in _ (by omega)
        have w2 : IntKind.i64.wrap (100 * cur) = 100 * cur := IntWalk.i64_in _ (by omega)
        have w3 : IntKind.i64.wrap (q.1 * pk) = q.1 * pk := IntWalk.i64_in _ (by omega)
        have w4 : IntKind.i64.wrap (100 * cur - q.1 * pk) = 100 * cur - q.1 * pk := IntWalk.i64_in _ (by omega)
        have w5 : IntKind.i64.wrap ((q.2 - p.2) * (100 * cur - q.1 * pk)) = (q.2 - p.2) * (100 * cur - q.1 * pk) := IntWalk.i64_in _ (by omega)
        have w6 : IntKind.i64.wrap (p.1 - q.1) = p.1 - q.1 := IntWalk.i64_in _ (by omega)
        have w7 : IntKind.i64.wrap (pk * (p.1 - q.1)) = pk * (p.1 - q.1) := IntWalk.i64_in _ (by omega)
        have w8 : ((q.2 - p.2) * (100 * cur - q.1 * pk)).tdiv (pk * (p.1 - q.1)) = (q.2 - p.2) * (100 * cur - q.1 * pk) / (pk * (p.1 - q.1)) := Int.tdiv_eq_ediv_of_nonneg hN
        have w9 : IntKind.i64.wrap ((q.2 - p.2) * (100 * cur - q.1 * pk) / (pk * (p.1 - q.1))) = (q.2 - p.2) * (100 * cur - q.1 * pk) / (pk * (p.1 - q.1)) := IntWalk.i64_in _ (by omega)
        have w10 : IntKind.i64.wrap (q.2 - (q.2 - p.2) * (100 * cur - q.1 * pk) / (pk * (p.1 - q.1))) = q.2 - (q.2 - p.2) * (100 * cur - q.1 * pk) / (pk * (p.1 - q.1)) := IntWalk.i64_in _ (by omega)
        have hDz : ¬ pk * (p.1 - q.1) = 0 := by omega
        have hDz' : (pk * (p.1 - q.1) == 0) = false := by simpa using hDz
        go_wp2
        go_region
        all_goals go_wp2
        all_goals go_quiet (fail)
        all_goals go_wp2
        all_goals go_ret2
        all_goals
          refine ⟨?_, below_drewN (below_drew ((K.alloc K.size _).alloc (by simp; have := K.size; omega) _)) _⟩
          rw [HEQ.out, HDR.out]
          simp only [tmGo, if_pos hle, mid]
          rfl
      · go_wp2
        go_region
        all_goals go_wp2
        all_goals go_roundw
        case rel =>
          refine ⟨k + 1, p, by omega, by omega, by go_num, below_drew ((K.alloc K.size _).alloc (by simp; have := K.size; omega) _), HP2.out, by omega, ?_⟩
          rw [HEQ.out, HDR.out]
          simp only [tmGo, if_neg (show ¬ 100 * cur ≤ p.1 * pk by omega)]
        case measure => simp [intOf]; omega
        case rel =>
          refine ⟨k + 1, p, by omega, by omega, by go_num, below_drew ((K.alloc K.size _).alloc (by simp; have := K.size; omega) _), HP2.out, by omega, ?_⟩
          rw [HEQ.out, HDR.out]
          simp only [tmGo, if_neg (show ¬ 100 * cur ≤ p.1 * pk by omega)]
        case measure => simp [intOf]; omega
    · have hkn : k = n := by omega
      subst hkn
      have hdrop : ps.drop k = [] := by rw [List.drop_eq_nil_iff]; omega
      have HDR := Lib.hid hdrop
      clear hdrop
      go_wp2
      go_ret2
      refine ⟨?_, K⟩
      rw [HEQ.out, HDR.out]
      rfl
def tmV (o : Option Int) : Int := match o with | none => 0 | some t => t
def tmB (o : Option Int) : Bool := match o with | none => false | some _ => true

theorem tm_any (A : Option Addr) (n c : Nat) (ps : List (Int × Int)) (pk cur : Int) (w : World) (hr : RdP w w.heap.size A n ps) (hg : Good ps) (p1 : 1 ≤ pk) (p2 : pk ≤ 1000000) (c1 : 0 ≤ cur) (c2 : cur ≤ 1000000) :
    Calls Try.prog 65 #[.slice A n c, .int .i64 pk, .int .i64 cur] w fun e w' => e = .returned (.tuple #[.int .i64 (tmV (tmC pk cur ps)), .bool (tmB (tmC pk cur ps))]) ∧ Below w.heap.size w w' := by
  have hgl := hg.len
  have hlen := hr.len
  obtain ⟨b, off, rfl, _, _⟩ := hr.2 (by omega)
  obtain ⟨a, b2, r, hps, _⟩ := hg
  have hg : Good ps := ⟨a, b2, r, hps, by assumption⟩
  by_cases hx : 100 * cur < a.1 * pk
  · have ht : tmC pk cur ps = none := by rw [hps]; simp only [tmC, if_pos hx]
    rw [ht]
    exact (tm_none b off n c ps pk cur w hr hg p1 p2 c1 c2 ht).mono fun _ _ ⟨he, hw⟩ => ⟨he, hw ▸ Below.refl _ _⟩
  · have ht : tmC pk cur ps = some (tmGo pk (100 * cur) a (b2 :: r)) := by rw [hps]; simp only [tmC, if_neg hx]
    rw [ht]
    exact tm_some b off n c ps pk cur a (b2 :: r) w hr hg p1 p2 c1 c2 hps (by omega)

end Go.Proofs.Ythedpegaelpbdaa
