/- relaylangWorks: the plain values. -/
import Derived.Test.YtaanoljfhnfjoaaGreatDoorRG3
import Derived.Test.YtaanoljfhnfjoaaGreatDoorRE6
import Derived.Test.YtaanoljfhnfjoaaGreatDoorREJ
import Derived.Test.YtaanoljfhnfjoaaGreatDoorRE4
namespace Go.Proofs.YtaanoljfhnfjoaaGreatDoor
set_option linter.unusedVariables false
set_option linter.unusedSimpArgs false

def txIn : ByteArray := ⟨#[84, 32, 61, 32, 40, 73, 32, 62, 32, 53, 48, 48, 41, 32, 65, 78, 68, 32, 78, 79, 84, 32, 66, 10, 76, 32, 61, 32, 76, 65, 84, 67, 72, 40, 84, 44, 32, 82, 41, 10]⟩
def txOut : ByteArray := ⟨#[84, 32, 61, 32, 73, 32, 62, 32, 53, 48, 48, 32, 65, 78, 68, 32, 78, 79, 84, 32, 66, 10, 76, 32, 61, 32, 76, 65, 84, 67, 72, 40, 84, 44, 32, 82, 41, 10]⟩
theorem i500 : Lib.itoa 500 = [53, 48, 48] := by decide +kernel
theorem asc_ext : ∀ {a b : List (List UInt8)}, a.Pairwise (· < ·) → b.Pairwise (· < ·) → (∀ x, x ∈ a ↔ x ∈ b) → a = b
  | [], [], _, _, _ => rfl
  | [], y :: b, _, _, h => by have := (h y).2 (by simp); simp at this
  | x :: a, [], _, _, h => by have := (h x).1 (by simp); simp at this
  | x :: a, y :: b, ha, hb, h => by
    rw [List.pairwise_cons] at ha hb
    have hxy : x = y := by
      rcases List.mem_cons.1 ((h x).1 (by simp)) with h1 | h1
      · exact h1
      · rcases List.mem_cons.1 ((h y).2 (by simp)) with h2 | h2
        · exact h2.symm
        · exact absurd (hb.1 x h1) (List.lt_asymm (ha.1 y h2))
    subst hxy
    rw [asc_ext ha.2 hb.2 fun z => ⟨fun hz => ?_, fun hz => ?_⟩]
    · rcases List.mem_cons.1 ((h z).1 (by simp [hz])) with h1 | h1
      · subst h1; exact absurd (ha.1 z hz) (List.lt_irrefl z)
      · exact h1
    · rcases List.mem_cons.1 ((h z).2 (by simp [hz])) with h1 | h1
      · subst h1; exact absurd (hb.1 z hz) (List.lt_irrefl z)
      · exact h1
theorem bys_map_inj : ∀ {a b : List ByteArray}, a.map bys = b.map bys → a = b
  | [], [], _ => rfl
  | x :: a, y :: b, h => by
    simp only [List.map_cons, List.cons.injEq] at h
    rw [show x = y from bl_inj h.1, bys_map_inj h.2]
  | [], _ :: _, h => by simp at h
  | _ :: _, [], h => by simp at h
theorem srt_is (l t : List ByteArray) (ht : (t.map bys).Pairwise (· < ·)) (h : ∀ x, x ∈ l ↔ x ∈ t) : cmpS (srtS l) = t := by
  refine bys_map_inj (asc_ext (srt_asc l) ht fun x => ?_)
  constructor
  · intro hx
    obtain ⟨y, hy, rfl⟩ := List.mem_map.1 hx
    exact List.mem_map_of_mem ((h y).1 (mem_srtS.1 (mem_cmpS.1 hy)))
  · intro hx
    obtain ⟨y, hy, rfl⟩ := List.mem_map.1 hx
    exact List.mem_map_of_mem (mem_cmpS.2 (mem_srtS.2 ((h y).2 hy)))
theorem nf0 : namesF prog0 = [⟨#[66]⟩, ⟨#[84]⟩, ⟨#[82]⟩] := by decide +kernel
theorem nv0 : namesV prog0 = [⟨#[73]⟩] := by decide +kernel
theorem in_f : inF prog0 = [⟨#[66]⟩, ⟨#[82]⟩] := by
  unfold inF
  rw [srt_is (namesF prog0) [⟨#[66]⟩, ⟨#[82]⟩, ⟨#[84]⟩] (by decide) (fun x => by rw [nf0]; simp; exact ⟨fun h => by rcases h with h | h | h <;> simp [h], fun h => by rcases h with h | h | h <;> simp [h]⟩)]
  decide +kernel
theorem in_v : inV prog0 = [⟨#[73]⟩] := by
  unfold inV
  exact srt_is (namesV prog0) [⟨#[73]⟩] (by decide) (fun x => by rw [nv0])
def Rl.tup (r : Rl) : ByteArray × List (Int × ByteArray × Int) := (r.name, r.expr.map fun x => (x.op, x.name, x.value))
theorem nds_inj : ∀ {a b : List Nd}, (a.map fun x => (x.op, x.name, x.value)) = (b.map fun x => (x.op, x.name, x.value)) → a = b
  | [], [], _ => rfl
  | ⟨o, n, v⟩ :: a, ⟨o', n', v'⟩ :: b, h => by
    simp only [List.map_cons, List.cons.injEq, Prod.mk.injEq] at h
    rw [h.1.1, h.1.2.1, h.1.2.2, nds_inj h.2]
  | [], _ :: _, h => by simp at h
  | _ :: _, [], h => by simp at h
theorem tup_inj {a b : Rl} (h : a.tup = b.tup) : a = b := by
  cases a; cases b
  simp only [Rl.tup, Prod.mk.injEq] at h
  rw [h.1, nds_inj h.2]
theorem tups_inj : ∀ {a b : List Rl}, a.map Rl.tup = b.map Rl.tup → a = b
  | [], [], _ => rfl
  | x :: a, y :: b, h => by
    simp only [List.map_cons, List.cons.injEq] at h
    rw [tup_inj h.1, tups_inj h.2]
  | [], _ :: _, h => by simp at h
  | _ :: _, [], h => by simp at h
theorem pr_in : (parseT NM txIn).err = 0 ∧ (parseT NM txIn).line = 0 ∧ (parseT NM txIn).rules.map Rl.tup = prog0.map Rl.tup := by decide +kernel
theorem parse_in : (parseT NM txIn).err = 0 ∧ (parseT NM txIn).line = 0 ∧ (parseT NM txIn).rules = prog0 := ⟨pr_in.1, pr_in.2.1, tups_inj pr_in.2.2⟩
theorem flat_inj : ∀ (t u : Tr) (r q : List Nd), t.flat ++ r = u.flat ++ q → t = u ∧ r = q := by
  intro t
  induction t with
  | flag s => intro u r q h; cases u <;> simp [Tr.flat] at h ⊢ <;> simp_all
  | gt s v => intro u r q h; cases u <;> simp [Tr.flat] at h ⊢ <;> simp_all
  | lt s v => intro u r q h; cases u <;> simp [Tr.flat] at h ⊢ <;> simp_all
  | not a ih =>
    intro u r q h
    cases u <;> simp [Tr.flat] at h ⊢
    exact ih _ _ _ h
  | delay v a ih =>
    intro u r q h
    cases u <;> simp [Tr.flat] at h ⊢
    have := ih _ _ _ h.2
    exact ⟨⟨h.1, this.1⟩, this.2⟩
  | and a b ia ib =>
    intro u r q h
    cases u <;> simp [Tr.flat] at h ⊢
    have h1 := ia _ _ _ h
    have h2 := ib _ _ _ h1.2
    exact ⟨⟨h1.1, h2.1⟩, h2.2⟩
  | or a b ia ib =>
    intro u r q h
    cases u <;> simp [Tr.flat] at h ⊢
    have h1 := ia _ _ _ h
    have h2 := ib _ _ _ h1.2
    exact ⟨⟨h1.1, h2.1⟩, h2.2⟩
  | latch a b ia ib =>
    intro u r q h
    cases u <;> simp [Tr.flat] at h ⊢
    have h1 := ia _ _ _ h
    have h2 := ib _ _ _ h1.2
    exact ⟨⟨h1.1, h2.1⟩, h2.2⟩
theorem trees_inj : ∀ {p : List Rl} {ts us : List Tr}, Trees p ts → Trees p us → ts = us
  | [], [], [], _, _ => rfl
  | r :: p, t :: ts, u :: us, h, k => by
    have := flat_inj t u [] [] (by rw [List.append_nil, List.append_nil, ← h.1, ← k.1])
    rw [this.1, trees_inj h.2 k.2]
  | [], _ :: _, _, h, _ => by cases h
  | [], [], _ :: _, _, k => by cases k
  | _ :: _, [], _, h, _ => by cases h
  | _ :: _, _ :: _, [], _, k => by cases k
def tr0 : List Tr := [.and (.gt ⟨#[73]⟩ 500) (.not (.flag ⟨#[66]⟩)), .latch (.flag ⟨#[84]⟩) (.flag ⟨#[82]⟩)]
theorem tr0_ok : Trees prog0 tr0 := ⟨rfl, rfl, trivial⟩
theorem text0 {ts : List Tr} (h : Trees prog0 ts) : bsB (textT NM prog0 ts) = txOut := by
  rw [trees_inj h tr0_ok]
  decide +kernel
end Go.Proofs.YtaanoljfhnfjoaaGreatDoor
