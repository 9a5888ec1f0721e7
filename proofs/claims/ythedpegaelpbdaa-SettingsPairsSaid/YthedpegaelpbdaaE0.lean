/- Relays and sources in memory; IndexFunc and ContainsFunc over generators and sources. -/
import Derived.Test.YthedpegaelpbdaaF0
import Derived.Test.YthedpegaelpbdaaV0
import Derived.Test.YthedpegaelpbdaaK2
namespace Go.Proofs.Ythedpegaelpbdaa
open Go.ChangeShapes Go.WideShapes Go.ChangeAt Go.RowKit Go.Joins Go.Deep
set_option linter.unusedVariables false
attribute [local go_sem ↓] execOp_call_val
attribute [local go_sem] callVal_func setCell_drewN alloc_drewN sEq_walk

structure Fs where
  gen : ByteArray
  x : Int
def Fs.cells (x : Fs) : List Value := [.string x.gen, .int .i64 x.x]
def Fs.val (x : Fs) : Value := .agg #[.string x.gen, .int .i64 x.x]
theorem Fs.len (x : Fs) : x.cells.length = 2 := rfl
def RdFs (w : World) (B : Nat) (A : Option Addr) (n : Nat) (xs : List Fs) : Prop := xs.length = n ∧ Rd w B 2 A n (xs.flatMap Fs.cells)
theorem RdFs.below {w w' : World} {B B' n : Nat} {A : Option Addr} {xs : List Fs} (h : RdFs w B A n xs) (hb : Below B' w w') (hB : B ≤ B') : RdFs w' B A n xs := ⟨h.1, h.2.below hb hB⟩
theorem RdFs.more {w : World} {B B' n : Nat} {A : Option Addr} {xs : List Fs} (h : RdFs w B A n xs) (hB : B ≤ B') : RdFs w B' A n xs := ⟨h.1, h.2.more hB⟩
theorem RdFs.at_ {w : World} {B n : Nat} {b off : Nat} {xs : List Fs} (h : RdFs w B (some ⟨b, off, none⟩) n xs) {i : Nat} {x : Fs} (hx : xs[i]? = some x) :
    w.cell? ⟨b, off + i * 2, none⟩ = some (.string x.gen) ∧ w.cell? ⟨b, off + i * 2 + 1, none⟩ = some (.int .i64 x.x) := by
  have hl : i < xs.length := (List.getElem?_eq_some_iff.1 hx).1
  have h1 := h.1
  obtain ⟨b', off', e, _, hc⟩ := h.2.2 (by omega)
  injection e with e
  injection e with e1 e2
  subst e1; subst e2
  have key : ∀ k, k < 2 → ∀ u, x.cells[k]? = some u → w.cell? ⟨b, off + i * 2 + k, none⟩ = some u := fun k hk u hu => by
    have := hc (i * 2 + k) u (by rw [flat_at Fs.len xs i x hx k hk]; exact hu)
    rwa [← Nat.add_assoc] at this
  exact ⟨key 0 (by omega) _ rfl, key 1 (by omega) _ rfl⟩
theorem RdFs.form {w : World} {B n : Nat} {A : Option Addr} {xs : List Fs} (h : RdFs w B A n xs) (h0 : 0 < n) : ∃ b off, A = some ⟨b, off, none⟩ ∧ b < B := by
  obtain ⟨b, off, e, hlt, _⟩ := h.2.2 h0
  exact ⟨b, off, e, hlt⟩
theorem Fs.box {w : World} {p : Nat} {t : TypeId} {x : Fs} (h : Blk w p t #[.string x.gen, .int .i64 x.x]) : w.cell? ⟨p, 0, none⟩ = some (.string x.gen) ∧ w.cell? ⟨p, 1, none⟩ = some (.int .i64 x.x) ∧ (∀ i, w.frozen? ⟨p, i, none⟩ = false) ∧ p < w.heap.size :=
  ⟨h.cell 0, h.cell 1, h.frozen, h.lt⟩

/-- an over-current relay -/
structure Cr where
  brk : ByteArray
  branch : ByteArray
  node : ByteArray
  curve : List (Int × Int)
  pick : Int
  opn : Int
/-- a relay and where its curve lies -/
structure Ch where
  r : Cr
  A : Option Addr
  n : Nat
  c : Nat
def Ch.cells (z : Ch) : List Value := [.string z.r.brk, .string z.r.branch, .string z.r.node, .slice z.A z.n z.c, .int .i64 z.r.pick, .int .i64 z.r.opn]
theorem Ch.len (x : Ch) : x.cells.length = 6 := rfl
structure RdCh (w : World) (B : Nat) (A : Option Addr) (n : Nat) (xs : List Ch) : Prop where
  len : xs.length = n
  rd : Rd w B 6 A n (xs.flatMap Ch.cells)
  zs : ∀ z ∈ xs, RdP w B z.A z.n z.r.curve ∧ z.n ≤ 9223372036854775807
theorem RdCh.below {w w' : World} {B B' n : Nat} {A : Option Addr} {xs : List Ch} (h : RdCh w B A n xs) (hb : Below B' w w') (hB : B ≤ B') : RdCh w' B A n xs := ⟨h.len, h.rd.below hb hB, fun z hz => ⟨(h.zs z hz).1.below hb hB, (h.zs z hz).2⟩⟩
theorem RdCh.more {w : World} {B B' n : Nat} {A : Option Addr} {xs : List Ch} (h : RdCh w B A n xs) (hB : B ≤ B') : RdCh w B' A n xs := ⟨h.len, h.rd.more hB, fun z hz => ⟨(h.zs z hz).1.more hB, (h.zs z hz).2⟩⟩
theorem RdCh.up {w w' : World} {n : Nat} {A : Option Addr} {xs : List Ch} (h : RdCh w w.heap.size A n xs) (hb : Below w.heap.size w w') : RdCh w' w'.heap.size A n xs := (h.below hb (Nat.le_refl _)).more hb.size
theorem RdCh.form {w : World} {B n : Nat} {A : Option Addr} {xs : List Ch} (h : RdCh w B A n xs) (h0 : 0 < n) : ∃ b off, A = some ⟨b, off, none⟩ ∧ b < B := by
  obtain ⟨b, off, e, hlt, _⟩ := h.rd.2 h0
  exact ⟨b, off, e, hlt⟩
theorem RdCh.at_ {w : World} {B n : Nat} {b off : Nat} {xs : List Ch} (h : RdCh w B (some ⟨b, off, none⟩) n xs) {i : Nat} {x : Ch} (hx : xs[i]? = some x) :
    w.cell? ⟨b, off + i * 6, none⟩ = some (.string x.r.brk) ∧ w.cell? ⟨b, off + i * 6 + 1, none⟩ = some (.string x.r.branch) ∧ w.cell? ⟨b, off + i * 6 + 2, none⟩ = some (.string x.r.node) ∧ w.cell? ⟨b, off + i * 6 + 3, none⟩ = some (.slice x.A x.n x.c) ∧ w.cell? ⟨b, off + i * 6 + 4, none⟩ = some (.int .i64 x.r.pick) ∧ w.cell? ⟨b, off + i * 6 + 5, none⟩ = some (.int .i64 x.r.opn) := by
  have hl : i < xs.length := (List.getElem?_eq_some_iff.1 hx).1
  have h1 := h.len
  obtain ⟨b', off', e, _, hc⟩ := h.rd.2 (by omega)
  injection e with e
  injection e with e1 e2
  subst e1; subst e2
  have key : ∀ k, k < 6 → ∀ u, x.cells[k]? = some u → w.cell? ⟨b, off + i * 6 + k, none⟩ = some u := fun k hk u hu => by
    have := hc (i * 6 + k) u (by rw [flat_at Ch.len xs i x hx k hk]; exact hu)
    rwa [← Nat.add_assoc] at this
  exact ⟨key 0 (by omega) _ rfl, key 1 (by omega) _ rfl, key 2 (by omega) _ rfl, key 3 (by omega) _ rfl, key 4 (by omega) _ rfl, key 5 (by omega) _ rfl⟩
theorem RdCh.take {w : World} {B n m : Nat} {A : Option Addr} {zs : List Ch} (h : RdCh w B A n zs) (hm : m ≤ n) : RdCh w B A m (zs.take m) := by
  have hl := h.len
  refine ⟨by simp; omega, ⟨by rw [flat_len Ch.len]; simp; omega, fun h0 => ?_⟩, fun z hz => h.zs z (List.mem_of_mem_take hz)⟩
  obtain ⟨b, off, e, hlt, hc⟩ := h.rd.2 (by omega)
  refine ⟨b, off, e, hlt, fun j u hu => hc j u ?_⟩
  have hs : zs.flatMap Ch.cells = (zs.take m).flatMap Ch.cells ++ (zs.drop m).flatMap Ch.cells := by rw [← List.flatMap_append, List.take_append_drop]
  rw [hs, List.getElem?_append_left (List.getElem?_eq_some_iff.1 hu).1]
  exact hu
theorem Ch.box {w : World} {p : Nat} {t : TypeId} {x : Ch} (h : Blk w p t #[.string x.r.brk, .string x.r.branch, .string x.r.node, .slice x.A x.n x.c, .int .i64 x.r.pick, .int .i64 x.r.opn]) : w.cell? ⟨p, 0, none⟩ = some (.string x.r.brk) ∧ w.cell? ⟨p, 1, none⟩ = some (.string x.r.branch) ∧ w.cell? ⟨p, 2, none⟩ = some (.string x.r.node) ∧ w.cell? ⟨p, 3, none⟩ = some (.slice x.A x.n x.c) ∧ w.cell? ⟨p, 4, none⟩ = some (.int .i64 x.r.pick) ∧ w.cell? ⟨p, 5, none⟩ = some (.int .i64 x.r.opn) ∧ (∀ i, w.frozen? ⟨p, i, none⟩ = false) ∧ p < w.heap.size :=
  ⟨h.cell 0, h.cell 1, h.cell 2, h.cell 3, h.cell 4, h.cell 5, h.frozen, h.lt⟩
theorem RdFs.take {w : World} {B n m : Nat} {A : Option Addr} {zs : List Fs} (h : RdFs w B A n zs) (hm : m ≤ n) : RdFs w B A m (zs.take m) := by
  have hl := h.1
  refine ⟨by simp; omega, ⟨by rw [flat_len Fs.len]; simp; omega, fun h0 => ?_⟩⟩
  obtain ⟨b, off, e, hlt, hc⟩ := h.2.2 (by omega)
  refine ⟨b, off, e, hlt, fun j u hu => hc j u ?_⟩
  have hs : zs.flatMap Fs.cells = (zs.take m).flatMap Fs.cells ++ (zs.drop m).flatMap Fs.cells := by rw [← List.flatMap_append, List.take_append_drop]
  rw [hs, List.getElem?_append_left (List.getElem?_eq_some_iff.1 hu).1]
  exact hu
theorem RdFs.up {w w' : World} {n : Nat} {A : Option Addr} {xs : List Fs} (h : RdFs w w.heap.size A n xs) (hb : Below w.heap.size w w') : RdFs w' w'.heap.size A n xs := (h.below hb (Nat.le_refl _)).more hb.size

theorem containsFuncGn (F : FuncId) (cap : Array Value) (A : Option Addr) (n c : Nat) (zs : List Gn) (p : Gn → Bool) (I : World → Prop)
    (hF : ∀ (args : Array Value) (w : World), (callFunc F args).run Try.prog w = .ok (.enter F args) w)
    (hI : ∀ w', I w' → RdGn w' w'.heap.size A n zs)
    (hf : ∀ (z : Gn) (w' : World), z ∈ zs → I w' → Calls Try.prog F (#[.agg #[.string z.name, .string z.node, .int .i64 z.least, .int .i64 z.most, .int .i64 z.ramp]] ++ cap) w' fun e w'' => e = .returned (.bool (p z)) ∧ I w'')
    (hn : n ≤ 9223372036854775807) (w : World) (hw : I w) :
    Calls Try.prog 118 #[.slice A n c, .func (.func F) #[] cap] w fun e w' => e = .returned (.bool (zs.any p)) ∧ I w' := by
  have HF := Lib.hid hf
  have HII := Lib.hid hI
  have HI := Lib.hid hw
  have HA := Lib.hid (idxGo_any p zs 0)
  clear hf hw hI
  go_enter Try.func118, Try.ntmps118
  go_wp2_with fail
  refine (indexFuncGn F cap A n c zs p I hF HII.out HF.out hn _ HI.out).mono ?_
  rintro e w1 ⟨rfl, hI1⟩
  have HI1 := Lib.hid hI1
  clear hI1
  go_wp2_with fail
  go_ret
  exact ⟨ret_bool HA.out, HI1.out⟩

set_option maxHeartbeats 1000000 in
theorem indexFuncFs (F : FuncId) (cap : Array Value) (A : Option Addr) (n c : Nat) (zs : List Fs) (p : Fs → Bool) (I : World → Prop)
    (hF : ∀ (args : Array Value) (w : World), (callFunc F args).run Try.prog w = .ok (.enter F args) w)
    (hI : ∀ w', I w' → RdFs w' w'.heap.size A n zs)
    (hf : ∀ (z : Fs) (w' : World), z ∈ zs → I w' → Calls Try.prog F (#[.agg #[.string z.gen, .int .i64 z.x]] ++ cap) w' fun e w'' => e = .returned (.bool (p z)) ∧ I w'')
    (hn : n ≤ 9223372036854775807) (w : World) (hw : I w) :
    Calls Try.prog 131 #[.slice A n c, .func (.func F) #[] cap] w fun e w' => e = .returned (.int .i64 (idxGo p zs 0)) ∧ I w' := by
  have HF := Lib.hid hf
  have HII := Lib.hid hI
  have HI := Lib.hid hw
  have hlen := Lib.hid (hI w hw).1
  clear hf hw hI
  go_enter Try.func131, Try.ntmps131
  go_wp2_with fail
  go_loopw [5, 8] (fun _ i wr => ∃ k : Nat, k ≤ n ∧ i = .int .i64 k ∧ I wr ∧ idxGo p zs 0 = idxGo p (zs.drop k) k) (fun _ i _ => n - (intOf i).toNat)
  case atStart => exact ⟨0, by omega, rfl, HI.out, rfl⟩
  case round =>
    obtain ⟨k, hk, rfl, hIw, hidx⟩ := hrel
    have hrd := HII.out wr hIw
    have HIW := Lib.hid hIw
    have HIDX := Lib.hid hidx
    clear hIw hidx
    by_cases hlt : k < n
    · obtain ⟨z, hz⟩ : ∃ z, zs[k]? = some z := ⟨_, List.getElem?_eq_getElem (by have := hlen.out; omega)⟩
      have HM := Lib.hid (List.mem_of_getElem? hz)
      obtain ⟨b, off, rfl, hblt⟩ := hrd.form (by omega)
      obtain ⟨c0, c1⟩ := hrd.at_ hz
      have HZ := Lib.hid (drop_cons hz)
      clear hz
      go_wp2_with fail
      refine (HF.out z wr HM.out HIW.out).mono ?_
      cases hp : p z with
      | true =>
        rintro e w1 ⟨rfl, hI1⟩
        have HI1 := Lib.hid hI1
        have HP := Lib.hid hp
        clear hI1 hp
        go_wp2_with fail
        go_ret
        exact ⟨ret_int (by rw [HIDX.out, HZ.out]; simp [idxGo, HP.out]), HI1.out⟩
      | false =>
        rintro e w1 ⟨rfl, hI1⟩
        have HI1 := Lib.hid hI1
        have HP := Lib.hid hp
        clear hI1 hp
        go_wp2_with fail
        go_roundw
        case rel => exact ⟨k + 1, by omega, by go_num, HI1.out, by rw [HIDX.out, HZ.out]; simp [idxGo, HP.out]⟩
        case measure => simp [intOf]; omega
    · have hd : zs.drop k = [] := by rw [List.drop_eq_nil_iff]; have := hlen.out; omega
      have HD := Lib.hid hd
      clear hd hrd
      go_wp2_with fail
      go_ret
      exact ⟨ret_int (by rw [HIDX.out, HD.out]; rfl), HIW.out⟩

theorem containsFuncFs (F : FuncId) (cap : Array Value) (A : Option Addr) (n c : Nat) (zs : List Fs) (p : Fs → Bool) (I : World → Prop)
    (hF : ∀ (args : Array Value) (w : World), (callFunc F args).run Try.prog w = .ok (.enter F args) w)
    (hI : ∀ w', I w' → RdFs w' w'.heap.size A n zs)
    (hf : ∀ (z : Fs) (w' : World), z ∈ zs → I w' → Calls Try.prog F (#[.agg #[.string z.gen, .int .i64 z.x]] ++ cap) w' fun e w'' => e = .returned (.bool (p z)) ∧ I w'')
    (hn : n ≤ 9223372036854775807) (w : World) (hw : I w) :
    Calls Try.prog 120 #[.slice A n c, .func (.func F) #[] cap] w fun e w' => e = .returned (.bool (zs.any p)) ∧ I w' := by
  have HF := Lib.hid hf
  have HII := Lib.hid hI
  have HI := Lib.hid hw
  have HA := Lib.hid (idxGo_any p zs 0)
  clear hf hw hI
  go_enter Try.func120, Try.ntmps120
  go_wp2_with fail
  refine (indexFuncFs F cap A n c zs p I hF HII.out HF.out hn _ HI.out).mono ?_
  rintro e w1 ⟨rfl, hI1⟩
  have HI1 := Lib.hid hI1
  clear hI1
  go_wp2_with fail
  go_ret
  exact ⟨ret_bool HA.out, HI1.out⟩
end Go.Proofs.Ythedpegaelpbdaa
