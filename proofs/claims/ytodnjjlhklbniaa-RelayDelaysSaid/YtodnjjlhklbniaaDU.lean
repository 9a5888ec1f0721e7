/- A fixed program of relays. -/
import Derived.Test.YtodnjjlhklbniaaDT
namespace Go.Proofs.Ytodnjjlhklbniaa
open Go.ChangeShapes Go.WideShapes Go.ChangeAt Go.RowKit
set_option linter.unusedVariables false
set_option linter.unusedSimpArgs false
attribute [local go_sem ↓] execOp_call_val
attribute [local go_sem] callVal_func setCell_drewN alloc_drewN sEq_walk

set_option maxHeartbeats 1000000 in
theorem sameTexts_yes (A : Option Addr) (n c : Nat) (a : List ByteArray) (B : Option Addr) (d : Nat) (w : World) (ha : RdStr w w.heap.size A n a) (hb : RdStr w w.heap.size B n a) (hn : n ≤ 9223372036854775807) :
    Calls Try.prog 11 #[.slice A n c, .slice B n d] w fun e w' => e = .returned (.bool true) ∧ ∃ nq, w' = w.drewN nq := by
  have hla := Lib.hid ha.1
  have HA := Lib.hid ha
  have HB := Lib.hid hb
  clear ha hb
  go_enter Try.func11, Try.ntmps11
  go_wp2_with fail
  go_loopw [5, 13] (fun _ i wr => ∃ k nq : Nat, k ≤ n ∧ i = .int .i64 k ∧ wr = w.drewN nq) (fun _ i _ => n - (intOf i).toNat)
  case atStart => exact ⟨0, 0, by omega, rfl, rfl⟩
  case round =>
    obtain ⟨k, nq, hk, rfl, rfl⟩ := hrel
    by_cases hlt : k < n
    · obtain ⟨x, hx⟩ : ∃ x, a[k]? = some x := ⟨_, List.getElem?_eq_getElem (by have := hla.out; omega)⟩
      obtain ⟨ba, oa, rfl, hablt⟩ := HA.out.form (by omega)
      obtain ⟨bb, ob, rfl, hbblt⟩ := HB.out.form (by omega)
      have hca := HA.out.at_ hx
      have hcb := HB.out.at_ hx
      have hltI : (k : Int) < (n : Int) := by omega
      have hkI : (0 : Int) ≤ (k : Int) := by omega
      have hp : sEq x x = true := sEq_iff.2 rfl
      clear hx
      go_wp2_with fail
      go_quiet (fail)
      go_wp2_with fail
      go_roundw
      case rel => exact ⟨k + 1, _, by omega, by go_num, rfl⟩
      case measure => simp [intOf]; omega
    · go_wp2_with fail
      go_ret
      exact ⟨rfl, _, rfl⟩

def prog0 : List Rl := [⟨⟨#[84]⟩, [⟨4, ⟨#[]⟩, 0⟩, ⟨1, ⟨#[73]⟩, 500⟩, ⟨3, ⟨#[]⟩, 0⟩, ⟨0, ⟨#[66]⟩, 0⟩]⟩, ⟨⟨#[76]⟩, [⟨7, ⟨#[]⟩, 0⟩, ⟨0, ⟨#[84]⟩, 0⟩, ⟨0, ⟨#[82]⟩, 0⟩]⟩]
theorem prog0_ck : ckR prog0 = 0 := by decide +kernel
theorem prog0_ord : orderR prog0 = some [0, 1] := by decide +kernel
def k0 : Nat → Nat → Bool × Int := fun _ _ => (false, 0)
def st1 : Rres := stepR ⟨prog0, [false, false], [], [⟨⟨#[73]⟩, 501⟩], 10⟩ [0, 1] k0
def st2 : Rres := stepR ⟨prog0, st1.vals, [⟨#[66]⟩], [], 10⟩ [0, 1] st1.kept
theorem st1_out : st1.out = [⟨#[84]⟩, ⟨#[76]⟩] := by decide +kernel
theorem st2_out : st2.out = [⟨#[76]⟩] := by decide +kernel
theorem st2_vals : st2.vals = [false, true] := by decide +kernel
theorem rdNd_lit {w : World} {B g T n : Nat} {l : List Nd} (hl : l.length = n) (h : Blk w g T (l.flatMap Nd.cells).toArray) (hg : g < B) : RdNd w B (some ⟨g, 0, none⟩) n l :=
  ⟨hl, by rw [flat_len Nd.len, hl], fun _ => ⟨g, 0, rfl, hg, fun j u hu => by rw [Nat.zero_add, h.cell j]; simpa using hu⟩⟩
theorem rdRh_lit {w : World} {B g T n : Nat} {l : List Rh} (hl : l.length = n) (h : Blk w g T (l.flatMap Rh.cells).toArray) (hg : g < B) (hz : ∀ z ∈ l, RdNd w B z.A z.n z.r.expr ∧ z.n ≤ 9223372036854775807) : RdRh w B (some ⟨g, 0, none⟩) n l :=
  ⟨hl, ⟨by rw [flat_len Rh.len, hl], fun _ => ⟨g, 0, rfl, hg, fun j u hu => by rw [Nat.zero_add, h.cell j]; simpa using hu⟩⟩, hz⟩
theorem rdIv_lit {w : World} {B g T n : Nat} {l : List Iv} (hl : l.length = n) (h : Blk w g T (l.flatMap Iv.cells).toArray) (hg : g < B) : RdIv w B (some ⟨g, 0, none⟩) n l :=
  ⟨hl, by rw [flat_len Iv.len, hl], fun _ => ⟨g, 0, rfl, hg, fun j u hu => by rw [Nat.zero_add, h.cell j]; simpa using hu⟩⟩
def RulesP (p : List Rl) (w : World) (e : Ending) (w' : World) : Prop := ∃ (g n : Nat) (hs : List Rh), e = .returned (.slice (some ⟨g, 0, none⟩) n n) ∧ rls hs = p ∧ RdRh w' w'.heap.size (some ⟨g, 0, none⟩) n hs ∧ Below w.heap.size w w'
set_option maxRecDepth 100000 in
set_option maxHeartbeats 2000000 in
theorem rules_any (w : World) : Calls Try.prog 12 #[] w (RulesP prog0 w) := by
  go_enter Try.func12, Try.ntmps12
  go_wp2_with fail
  have hb : Below w.heap.size w (((w.alloc (.cells ([⟨4, ⟨#[]⟩, 0⟩, ⟨1, ⟨#[73]⟩, 500⟩, ⟨3, ⟨#[]⟩, 0⟩, ⟨0, ⟨#[66]⟩, 0⟩].flatMap Nd.cells).toArray 29)).alloc (.cells ([⟨7, ⟨#[]⟩, 0⟩, ⟨0, ⟨#[84]⟩, 0⟩, ⟨0, ⟨#[82]⟩, 0⟩].flatMap Nd.cells).toArray 29)).alloc (.cells ([⟨⟨⟨#[84]⟩, [⟨4, ⟨#[]⟩, 0⟩, ⟨1, ⟨#[73]⟩, 500⟩, ⟨3, ⟨#[]⟩, 0⟩, ⟨0, ⟨#[66]⟩, 0⟩]⟩, some ⟨w.heap.size, 0, none⟩, 4, 4⟩, ⟨⟨⟨#[76]⟩, [⟨7, ⟨#[]⟩, 0⟩, ⟨0, ⟨#[84]⟩, 0⟩, ⟨0, ⟨#[82]⟩, 0⟩]⟩, some ⟨w.heap.size + 1, 0, none⟩, 3, 3⟩].flatMap Rh.cells).toArray 32)) := (((Below.refl _ _).alloc (Nat.le_refl _) _).alloc (by simp) _).alloc (by simp; omega) _
  go_ret
  refine ⟨w.heap.size + 1 + 1, 2, [⟨⟨⟨#[84]⟩, [⟨4, ⟨#[]⟩, 0⟩, ⟨1, ⟨#[73]⟩, 500⟩, ⟨3, ⟨#[]⟩, 0⟩, ⟨0, ⟨#[66]⟩, 0⟩]⟩, some ⟨w.heap.size, 0, none⟩, 4, 4⟩, ⟨⟨⟨#[76]⟩, [⟨7, ⟨#[]⟩, 0⟩, ⟨0, ⟨#[84]⟩, 0⟩, ⟨0, ⟨#[82]⟩, 0⟩]⟩, some ⟨w.heap.size + 1, 0, none⟩, 3, 3⟩], rfl, rfl, ?_, hb⟩
  refine rdRh_lit (T := 32) rfl ?_ ?_ (fun z hz => ?_)
  · exact Blk.new_ (by simp)
  · simp
  simp only [List.mem_cons, List.mem_singleton, List.not_mem_nil, or_false] at hz
  rcases hz with rfl | rfl
  · exact ⟨rdNd_lit (T := 29) rfl (l := [⟨4, ⟨#[]⟩, 0⟩, ⟨1, ⟨#[73]⟩, 500⟩, ⟨3, ⟨#[]⟩, 0⟩, ⟨0, ⟨#[66]⟩, 0⟩]) (((Blk.new w _ _).alloc _).alloc _) (by simp; omega), by show 4 ≤ _; omega⟩
  · exact ⟨rdNd_lit (T := 29) rfl (l := [⟨7, ⟨#[]⟩, 0⟩, ⟨0, ⟨#[84]⟩, 0⟩, ⟨0, ⟨#[82]⟩, 0⟩]) ((Blk.new_ (by simp)).alloc _) (by simp), by show 3 ≤ _; omega⟩
theorem own_fr {X : Nat → Prop} {w w' : World} {base e size n : Nat} {v : Value} {xs : List Value} (h : w.ownsRow base e size v n xs) (hF : Fr X w w') (hX : ∀ k, base ≤ k → ¬ X k) : w'.ownsRow base e size v n xs := by
  refine ⟨h.1, ?_⟩
  rcases h.2 with h1 | ⟨g, cap, cur, h1, h2, h3, h4⟩
  · exact .inl h1
  · exact .inr ⟨g, cap, cur, h1, h2, (hF.block g (Array.getElem?_eq_some_iff.1 h3).1 (hX g h2)).trans h3, h4⟩
theorem RelX.lt {y : Rel} {w : World} {vals : List Bool} {kept : Nat → Nat → Bool × Int} (h : RelW y w vals kept) {k : Nat} (hk : w.heap.size ≤ k) : ¬ RelX y k := fun hx => by
  have h1 := h.vb.lt
  have h2 := h.ki.lt
  rcases hx with hx | hx <;> omega
theorem one_bools (l : List Bool) : ∀ u ∈ bools l, u.oneCell' = true := fun u hu => by
  obtain ⟨z, _, rfl⟩ := List.mem_map.1 hu; rfl
theorem values_any (y : Rel) (ok : RelOk y) (vals : List Bool) (kept : Nat → Nat → Bool × Int) (w : World) (h : RelW y w vals kept) :
    Calls Try.prog 13 #[.pointer (some ⟨y.r, 0, none⟩)] w fun e w' => ∃ v, e = .returned v ∧ w'.ownsRow w.heap.size 4 1 v y.n (bools vals) ∧ Below w.heap.size w w' := by
  have r2 := h.bR.cell 2
  have rl := h.bR.lt
  have HV := Lib.hid h.vb
  have HL : Hid ((bools vals).length = y.n * 1) := Lib.hid (by unfold bools; rw [List.length_map, h.vl, Nat.mul_one])
  have hn := ok.hn
  clear h
  go_enter Try.func13, Try.ntmps13
  go_wp2_with fail
  refine (cloneBo ⟨y.gv, 0, none⟩ y.n y.n (bools vals) w HL.out (by omega) (one_bools _) (fun j u hj => by rw [Addr.add_lit, Nat.zero_add, HV.out.cell j]; simpa using hj)).mono ?_
  rintro e w1 ⟨v, rfl, hown, _, hb⟩
  have HO := Lib.hid hown
  have HB := Lib.hid hb
  clear hown hb
  go_wp2_with fail
  go_ret
  exact ⟨v, rfl, HO.out, HB.out⟩
end Go.Proofs.Ytodnjjlhklbniaa
