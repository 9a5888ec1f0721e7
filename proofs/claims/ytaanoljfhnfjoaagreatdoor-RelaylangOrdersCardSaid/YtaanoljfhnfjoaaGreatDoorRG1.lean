/- relaylang.text. -/
import Derived.Test.YtaanoljfhnfjoaaGreatDoorRG0
namespace Go.Proofs.YtaanoljfhnfjoaaGreatDoor
open Go.ChangeShapes Go.WideShapes Go.ChangeAt Go.RowKit
set_option linter.unusedVariables false
set_option linter.unusedSimpArgs false
attribute [local go_sem ↓] execOp_call_val
attribute [local go_sem] callVal_func setCell_drewN alloc_drewN sEq_walk

theorem ao45 (t : Tr) : ([4, 5] : List Int).any (fun x => decide (t.op = x)) = t.isAO := by cases t <;> rfl
theorem ao54 (t : Tr) : ([5, 4] : List Int).any (fun x => decide (t.op = x)) = t.isAO := by cases t <;> rfl
theorem or5 (t : Tr) : ([5] : List Int).any (fun x => decide (t.op = x)) = t.isOr := by cases t <;> rfl
theorem envG_below {w w' : World} {B : Nat} (h : EnvG w B) (k : Below w.heap.size w w') (hB : B ≤ w.heap.size) : EnvG w' B := by
  obtain ⟨w0, h1, h2, h3⟩ := h
  exact ⟨w0, h1, h2.trans (k.mono h2.size), h3⟩
theorem envG_grown {w w' : World} {B g : Nat} (h : EnvG w B) (k : w.grownBy w' (some g)) (hg : B ≤ g) : EnvG w' B := by
  obtain ⟨w0, h1, h2, h3⟩ := h
  exact ⟨w0, h1, below_only h2 k (Nat.le_trans h3 hg) (Nat.le_refl _), h3⟩
def Subs : Tr → Prop
  | .not a => TextOk a
  | .and a b => TextOk a ∧ TextOk b
  | .or a b => TextOk a ∧ TextOk b
  | .delay _ a => TextOk a
  | .latch a b => TextOk a ∧ TextOk b
  | _ => True
def TextE (t : Tr) (a : Nat) (w : World) (e : Ending) (w' : World) : Prop := e = .returned (.tuple #[.string (bsB (t.pr NM)), .int .i64 ((a + t.flat.length : Nat) : Int)]) ∧ Below w.heap.size w w'
set_option maxRecDepth 100000 in
set_option maxHeartbeats 4000000 in
theorem text_step (t : Tr) (hS : Subs t) : TextOk t := fun A n c xs a w hR hn hv hat hz hE => by
  show Calls Tryz.prog 19 _ w (TextE t a w)
  obtain ⟨hx, hal⟩ := hat.hd
  have hlen := hR.1
  obtain ⟨hv0, hv1⟩ := hv _ (List.mem_of_getElem? hx)
  obtain ⟨b, off, rfl, hbB⟩ := hR.form (by omega)
  obtain ⟨x0, x1, x2⟩ := hR.at_ hx
  rw [t.hd_op] at x0
  have HS := Lib.hid hS
  have HR := Lib.hid hR
  have HV := Lib.hid hv
  have HAT := Lib.hid hat
  have HZ := Lib.hid hz
  have HE := Lib.hid hE
  have haI : (a : Int) < (n : Int) := by omega
  have HNM : Hid (t.hd.name = t.hd.name) := Lib.hid rfl
  clear hS hR hv hat hz hE hx
  go_enter Tryz.func19, Tryz.ntmps19
  go_upto_region 3 with fail
  obtain ⟨k1, k2, k3, kb⟩ : Blk (((w.alloc (.cells #[.slice (some ⟨b, off, none⟩) n c] 37)).alloc (.cells #[.int .i64 ((a : Int) + 1)] 3)).alloc (.cells #[.int .i64 t.op, .string t.hd.name, .int .i64 t.hd.value] 41)) w.heap.size 37 #[.slice (some ⟨b, off, none⟩) n c] ∧ Blk (((w.alloc (.cells #[.slice (some ⟨b, off, none⟩) n c] 37)).alloc (.cells #[.int .i64 ((a : Int) + 1)] 3)).alloc (.cells #[.int .i64 t.op, .string t.hd.name, .int .i64 t.hd.value] 41)) (w.heap.size + 1) 3 #[.int .i64 ((a : Int) + 1)] ∧ Blk (((w.alloc (.cells #[.slice (some ⟨b, off, none⟩) n c] 37)).alloc (.cells #[.int .i64 ((a : Int) + 1)] 3)).alloc (.cells #[.int .i64 t.op, .string t.hd.name, .int .i64 t.hd.value] 41)) (w.heap.size + 1 + 1) 41 #[.int .i64 t.op, .string t.hd.name, .int .i64 t.hd.value] ∧ Below w.heap.size w (((w.alloc (.cells #[.slice (some ⟨b, off, none⟩) n c] 37)).alloc (.cells #[.int .i64 ((a : Int) + 1)] 3)).alloc (.cells #[.int .i64 t.op, .string t.hd.name, .int .i64 t.hd.value] 41)) :=
    ⟨((Blk.new _ _ _).alloc _).alloc _, (Blk.new_ (by simp)).alloc _, Blk.new_ (by simp), (((Below.refl _ _).alloc (Nat.le_refl _) _).alloc (by simp) _).alloc (by simp; omega) _⟩
  generalize (((w.alloc (.cells #[.slice (some ⟨b, off, none⟩) n c] 37)).alloc (.cells #[.int .i64 ((a : Int) + 1)] 3)).alloc (.cells #[.int .i64 t.op, .string t.hd.name, .int .i64 t.hd.value] 41)) = w3 at *
  have HE3 := Lib.hid (HE.out.up kb)
  have f0 := k3.cell 0
  have f1 := k3.cell 1
  have f2 := k3.cell 2
  have fl := k3.lt
  have K1 := Lib.hid k1
  have K2 := Lib.hid k2
  have K3 := Lib.hid k3
  have KB := Lib.hid kb
  obtain ⟨B, hB⟩ : ∃ q, q = w.heap.size := ⟨_, rfl⟩
  have HB := Lib.hid hB
  rw [← hB] at K1 K2 K3 KB HR fl f0 f1 f2 hbB ⊢
  clear k1 k2 k3 kb x0 x1 x2 hB
  go_wp2_with fail
  refine (itoa_any t.hd.value (by omega) (by omega) w3 HE3.out.tab).mono ?_
  rintro e w4 ⟨rfl, k4⟩
  have hb4 : Below B w w4 := KB.out.trans (k4.mono (by have := K3.out.lt; omega))
  have h1 := K1.out.below k4 K1.out.lt
  have h2 := K2.out.below k4 K2.out.lt
  have h3 := K3.out.below k4 K3.out.lt
  rw [show ((a : Int) + 1) = ((a + 1 : Nat) : Int) from rfl] at h2
  have HB4 := Lib.hid hb4
  have HG4 : Hid (EnvG w4 B) := Lib.hid ⟨w, HE.out, by rw [← HB.out]; exact hb4, by rw [← HB.out]; exact Nat.le_refl _⟩
  have BL4 := Lib.hid h1
  have BA4 := Lib.hid h2
  have HNUM : Hid (bbs (itoaB t.hd.value) = NM.dg t.hd.value) := Lib.hid rfl
  have hnum : (itoaB t.hd.value).size ≤ 21 := by
    have := Lib.itoa_length_le t.hd.value (by omega) (by omega)
    simpa [itoaB, ByteArray.size] using this
  generalize hnn : itoaB t.hd.value = nb at *
  clear hnn
  have g0 := h3.cell 0
  have g1 := h3.cell 1
  have gl := h3.lt
  have gf := h3.frozen
  have m0 := h2.cell 0
  have ml := h2.lt
  have mf := h2.frozen
  have l0 := h1.cell 0
  have ll := h1.lt
  clear k4 h1 h2 h3 f0 f1 f2 fl hb4
  have HQ : Hid (∀ e w', TextE t a w e w' = (e = .returned (.tuple #[.string (bsB (t.pr NM)), .int .i64 ((a + t.flat.length : Nat) : Int)]) ∧ Below B w w')) := Lib.hid fun e w' => by rw [HB.out]; rfl
  cases t with
  | flag s =>
    simp only [Tr.op, Tr.hd] at *
    have HPR : Hid (bsB ((.flag s : Tr).pr NM) = s) := Lib.hid (by
      rw [show (.flag s : Tr).pr NM = bbs s from rfl]
      apply bl_inj
      simp [bl, bsB, bbs, kGT, kLT, kNOT, kDELAY, kLATCH, kAND, kOR, kC, kR])
    have HLE : Hid (((.flag s : Tr).pr NM).length = (s).size) := Lib.hid (by rw [← HPR.out]; rfl)
    have hsz := HZ.out
    rw [HLE.out] at hsz
    try simp only [ByteArray.size_append'] at hsz
    have hs1 : s.size ≤ 100000 := by omega
    have HLN : Hid ((.flag s : Tr).flat.length = 1) := Lib.hid rfl
    rw [HPR.out, HLN.out] at HQ
    clear HLE HPR HLN hsz
    go_upto_region 7 with fail
    go_quiet (fail)
    go_wp2_with fail
    go_ret2
    rw [HQ.out]
    exact ⟨rfl, below_drewN HB4.out _⟩
  | gt s v =>
    simp only [Tr.op, Tr.hd] at *
    have HPR : Hid (bsB ((.gt s v : Tr).pr NM) = s ++ ⟨#[32, 62, 32]⟩ ++ nb) := Lib.hid (by
      rw [show (.gt s v : Tr).pr NM = bbs s ++ (kGT ++ NM.dg v) from rfl, ← HNUM.out]
      apply bl_inj
      simp [bl, bsB, bbs, kGT, kLT, kNOT, kDELAY, kLATCH, kAND, kOR, kC, kR])
    have HLE : Hid (((.gt s v : Tr).pr NM).length = (s ++ ⟨#[32, 62, 32]⟩ ++ nb).size) := Lib.hid (by rw [← HPR.out]; rfl)
    have hsz := HZ.out
    rw [HLE.out] at hsz
    try simp only [ByteArray.size_append'] at hsz
    have hs1 : s.size ≤ 100000 := by omega
    have HLN : Hid ((.gt s v : Tr).flat.length = 1) := Lib.hid rfl
    rw [HPR.out, HLN.out] at HQ
    clear HLE HPR HLN hsz
    go_upto_region 9 with fail
    go_quiet (fail)
    go_wp2_with fail
    go_ret2
    rw [HQ.out]
    exact ⟨rfl, below_drewN HB4.out _⟩
  | lt s v =>
    simp only [Tr.op, Tr.hd] at *
    have HPR : Hid (bsB ((.lt s v : Tr).pr NM) = s ++ ⟨#[32, 60, 32]⟩ ++ nb) := Lib.hid (by
      rw [show (.lt s v : Tr).pr NM = bbs s ++ (kLT ++ NM.dg v) from rfl, ← HNUM.out]
      apply bl_inj
      simp [bl, bsB, bbs, kGT, kLT, kNOT, kDELAY, kLATCH, kAND, kOR, kC, kR])
    have HLE : Hid (((.lt s v : Tr).pr NM).length = (s ++ ⟨#[32, 60, 32]⟩ ++ nb).size) := Lib.hid (by rw [← HPR.out]; rfl)
    have hsz := HZ.out
    rw [HLE.out] at hsz
    try simp only [ByteArray.size_append'] at hsz
    have hs1 : s.size ≤ 100000 := by omega
    have HLN : Hid ((.lt s v : Tr).flat.length = 1) := Lib.hid rfl
    rw [HPR.out, HLN.out] at HQ
    clear HLE HPR HLN hsz
    go_upto_region 11 with fail
    go_quiet (fail)
    go_wp2_with fail
    go_ret2
    rw [HQ.out]
    exact ⟨rfl, below_drewN HB4.out _⟩
  | not a0 =>
    obtain ⟨hr, HD⟩ := HAT.out
    have HDR := Lib.hid HD
    clear HD
    simp only [Tr.op, Tr.hd] at *
    go_wp2_with fail
    have hbo4 : Below w4.heap.size w4 (w4.alloc (.cells #[.int .i64 4, .int .i64 5] 3)) := (Below.refl _ _).alloc (Nat.le_refl _) _
    have hoo4 : Blk (w4.alloc (.cells #[.int .i64 4, .int .i64 5] 3)) w4.heap.size 3 #[.int .i64 4, .int .i64 5] := Blk.new _ _ _
    have hlt4 : B + 1 < w4.heap.size := BA4.out.lt
    obtain ⟨O4, hO4⟩ : ∃ q, q = w4.heap.size := ⟨_, rfl⟩
    rw [← hO4] at hoo4 hlt4 ⊢
    generalize (w4.alloc (.cells #[.int .i64 4, .int .i64 5] 3)) = wo4 at *
    have HRI4 : Hid (RdI wo4 wo4.heap.size (some ⟨O4, 0, none⟩) 2 [4, 5]) := Lib.hid ⟨rfl, fun _ => ⟨O4, 0, rfl, hoo4.lt, fun j u hu => by
      rw [Nat.zero_add, hoo4.cell j]
      simpa [ints] using hu⟩⟩
    have HBO4 := Lib.hid (HB4.out.trans (hbo4.mono (by omega)))
    have BLO4 := Lib.hid (BL4.out.below hbo4 BL4.out.lt)
    have BAO4 := Lib.hid (BA4.out.below hbo4 BA4.out.lt)
    have HGO4 := Lib.hid (envG_below HG4.out hbo4 (by omega))
    clear hbo4 hoo4 hO4
    refine (operand_any a0 HS.out (some ⟨b, off, none⟩) (some ⟨O4, 0, none⟩) n c 2 2 xs [4, 5] (a + 1) B (B + 1) B wo4 (HR.out.below HBO4.out (Nat.le_refl _)) hn HV.out (TrAt.sub (x := ⟨3, ⟨#[]⟩, 0⟩) (q := []) (r := hr) (by have h := HDR.out; simpa [Tr.flat] using h)) BLO4.out BAO4.out HRI4.out (fun q o h => by injection h with h; injection h with h; omega) (by omega) (Nat.le_refl _) (by omega) (by omega) (by have h := HZ.out; simp only [Tr.pr, List.length_append] at h; have ha0 := (paren_len a0.isAO (a0.pr NM)).1; omega) HGO4.out).mono ?_
    rintro e w5 ⟨rfl, hg5, ha5⟩
    have HB5 := Lib.hid (below_only HBO4.out hg5 (by omega) (by have := HB.out; omega))
    have BL5 := Lib.hid (BLO4.out.grown hg5 (by intro h; injection h with h; omega))
    have BA5 := Lib.hid ha5
    have HG5 := Lib.hid (envG_grown HGO4.out hg5 (by omega))
    clear hg5 ha5
    rw [ao45]
    obtain ⟨sa0, hsa0⟩ : ∃ q, q = bsB (paren a0.isAO (a0.pr NM)) := ⟨_, rfl⟩
    rw [← hsa0]
    have HSa0 : Hid (bbs sa0 = (paren a0.isAO (a0.pr NM))) := Lib.hid (by rw [hsa0]; rfl)
    clear hsa0
    have n0 := BA5.out.cell 0
    have nl := BA5.out.lt
    have nf := BA5.out.frozen
    have HPR : Hid (bsB ((.not a0 : Tr).pr NM) = (⟨#[78, 79, 84, 32]⟩ ++ sa0 : ByteArray)) := Lib.hid (by
      rw [show (.not a0 : Tr).pr NM = kNOT ++ paren a0.isAO (a0.pr NM) from rfl, ← HSa0.out]
      apply bl_inj
      simp [bl, bsB, bbs, kGT, kLT, kNOT, kDELAY, kLATCH, kAND, kOR, kC, kR])
    have HLE : Hid (((.not a0 : Tr).pr NM).length = ((⟨#[78, 79, 84, 32]⟩ ++ sa0 : ByteArray)).size) := Lib.hid (by rw [← HPR.out]; rfl)
    have HLN : Hid ((((a + (.not a0 : Tr).flat.length : Nat) : Int)) = ((a + 1 + a0.flat.length : Nat) : Int)) := Lib.hid (by simp only [Tr.flat, List.length_cons, List.length_append]; omega)
    have hsz := HZ.out
    rw [HLE.out] at hsz
    simp only [ByteArray.size_append'] at hsz
    have hzsa0 : sa0.size ≤ 100000 := by omega
    rw [HPR.out, HLN.out] at HQ
    clear HLE HPR HLN hsz g0 g1 gl gf m0 ml mf l0 ll
    go_upto_region 14 with fail
    go_quiet (fail)
    go_wp2_with fail
    go_ret2
    rw [HQ.out]
    exact ⟨rfl, below_drewN HB5.out _⟩
  | and a0 b0 =>
    obtain ⟨hr, HD⟩ := HAT.out
    have HDR := Lib.hid HD
    clear HD
    simp only [Tr.op, Tr.hd] at *
    go_wp2_with fail
    have hbo4 : Below w4.heap.size w4 (w4.alloc (.cells #[.int .i64 5] 3)) := (Below.refl _ _).alloc (Nat.le_refl _) _
    have hoo4 : Blk (w4.alloc (.cells #[.int .i64 5] 3)) w4.heap.size 3 #[.int .i64 5] := Blk.new _ _ _
    have hlt4 : B + 1 < w4.heap.size := BA4.out.lt
    obtain ⟨O4, hO4⟩ : ∃ q, q = w4.heap.size := ⟨_, rfl⟩
    rw [← hO4] at hoo4 hlt4 ⊢
    generalize (w4.alloc (.cells #[.int .i64 5] 3)) = wo4 at *
    have HRI4 : Hid (RdI wo4 wo4.heap.size (some ⟨O4, 0, none⟩) 1 [5]) := Lib.hid ⟨rfl, fun _ => ⟨O4, 0, rfl, hoo4.lt, fun j u hu => by
      rw [Nat.zero_add, hoo4.cell j]
      simpa [ints] using hu⟩⟩
    have HBO4 := Lib.hid (HB4.out.trans (hbo4.mono (by omega)))
    have BLO4 := Lib.hid (BL4.out.below hbo4 BL4.out.lt)
    have BAO4 := Lib.hid (BA4.out.below hbo4 BA4.out.lt)
    have HGO4 := Lib.hid (envG_below HG4.out hbo4 (by omega))
    clear hbo4 hoo4 hO4
    refine (operand_any a0 HS.out.1 (some ⟨b, off, none⟩) (some ⟨O4, 0, none⟩) n c 1 1 xs [5] (a + 1) B (B + 1) B wo4 (HR.out.below HBO4.out (Nat.le_refl _)) hn HV.out (TrAt.sub (x := ⟨4, ⟨#[]⟩, 0⟩) (q := b0.flat) (r := hr) (by have h := HDR.out; simpa [Tr.flat] using h)) BLO4.out BAO4.out HRI4.out (fun q o h => by injection h with h; injection h with h; omega) (by omega) (Nat.le_refl _) (by omega) (by omega) (by have h := HZ.out; simp only [Tr.pr, List.length_append] at h; have ha0 := (paren_len a0.isOr (a0.pr NM)).1; have hb0 := (paren_len b0.isAO (b0.pr NM)).1; omega) HGO4.out).mono ?_
    rintro e w5 ⟨rfl, hg5, ha5⟩
    have HB5 := Lib.hid (below_only HBO4.out hg5 (by omega) (by have := HB.out; omega))
    have BL5 := Lib.hid (BLO4.out.grown hg5 (by intro h; injection h with h; omega))
    have BA5 := Lib.hid ha5
    have HG5 := Lib.hid (envG_grown HGO4.out hg5 (by omega))
    clear hg5 ha5
    rw [or5]
    obtain ⟨sa0, hsa0⟩ : ∃ q, q = bsB (paren a0.isOr (a0.pr NM)) := ⟨_, rfl⟩
    rw [← hsa0]
    have HSa0 : Hid (bbs sa0 = (paren a0.isOr (a0.pr NM))) := Lib.hid (by rw [hsa0]; rfl)
    clear hsa0
    go_wp2_with fail
    have hbo5 : Below w5.heap.size w5 (w5.alloc (.cells #[.int .i64 5, .int .i64 4] 3)) := (Below.refl _ _).alloc (Nat.le_refl _) _
    have hoo5 : Blk (w5.alloc (.cells #[.int .i64 5, .int .i64 4] 3)) w5.heap.size 3 #[.int .i64 5, .int .i64 4] := Blk.new _ _ _
    have hlt5 : B + 1 < w5.heap.size := BA5.out.lt
    obtain ⟨O5, hO5⟩ : ∃ q, q = w5.heap.size := ⟨_, rfl⟩
    rw [← hO5] at hoo5 hlt5 ⊢
    generalize (w5.alloc (.cells #[.int .i64 5, .int .i64 4] 3)) = wo5 at *
    have HRI5 : Hid (RdI wo5 wo5.heap.size (some ⟨O5, 0, none⟩) 2 [5, 4]) := Lib.hid ⟨rfl, fun _ => ⟨O5, 0, rfl, hoo5.lt, fun j u hu => by
      rw [Nat.zero_add, hoo5.cell j]
      simpa [ints] using hu⟩⟩
    have HBO5 := Lib.hid (HB5.out.trans (hbo5.mono (by omega)))
    have BLO5 := Lib.hid (BL5.out.below hbo5 BL5.out.lt)
    have BAO5 := Lib.hid (BA5.out.below hbo5 BA5.out.lt)
    have HGO5 := Lib.hid (envG_below HG5.out hbo5 (by omega))
    clear hbo5 hoo5 hO5
    refine (operand_any b0 HS.out.2 (some ⟨b, off, none⟩) (some ⟨O5, 0, none⟩) n c 2 2 xs [5, 4] (a + 1 + a0.flat.length) B (B + 1) B wo5 (HR.out.below HBO5.out (Nat.le_refl _)) hn HV.out (TrAt.sub2 (x := ⟨4, ⟨#[]⟩, 0⟩) (r := hr) (by have h := HDR.out; simpa [Tr.flat] using h)) BLO5.out BAO5.out HRI5.out (fun q o h => by injection h with h; injection h with h; omega) (by omega) (Nat.le_refl _) (by omega) (by omega) (by have h := HZ.out; simp only [Tr.pr, List.length_append] at h; have ha0 := (paren_len a0.isOr (a0.pr NM)).1; have hb0 := (paren_len b0.isAO (b0.pr NM)).1; omega) HGO5.out).mono ?_
    rintro e w6 ⟨rfl, hg6, ha6⟩
    have HB6 := Lib.hid (below_only HBO5.out hg6 (by omega) (by have := HB.out; omega))
    have BL6 := Lib.hid (BLO5.out.grown hg6 (by intro h; injection h with h; omega))
    have BA6 := Lib.hid ha6
    have HG6 := Lib.hid (envG_grown HGO5.out hg6 (by omega))
    clear hg6 ha6
    rw [ao54]
    obtain ⟨sb0, hsb0⟩ : ∃ q, q = bsB (paren b0.isAO (b0.pr NM)) := ⟨_, rfl⟩
    rw [← hsb0]
    have HSb0 : Hid (bbs sb0 = (paren b0.isAO (b0.pr NM))) := Lib.hid (by rw [hsb0]; rfl)
    clear hsb0
    have n0 := BA6.out.cell 0
    have nl := BA6.out.lt
    have nf := BA6.out.frozen
    have HPR : Hid (bsB ((.and a0 b0 : Tr).pr NM) = sa0 ++ ⟨#[32, 65, 78, 68, 32]⟩ ++ sb0) := Lib.hid (by
      rw [show (.and a0 b0 : Tr).pr NM = paren a0.isOr (a0.pr NM) ++ (kAND ++ paren b0.isAO (b0.pr NM)) from rfl, ← HSa0.out, ← HSb0.out]
      apply bl_inj
      simp [bl, bsB, bbs, kGT, kLT, kNOT, kDELAY, kLATCH, kAND, kOR, kC, kR])
    have HLE : Hid (((.and a0 b0 : Tr).pr NM).length = (sa0 ++ ⟨#[32, 65, 78, 68, 32]⟩ ++ sb0).size) := Lib.hid (by rw [← HPR.out]; rfl)
    have HLN : Hid ((((a + (.and a0 b0 : Tr).flat.length : Nat) : Int)) = ((a + 1 + a0.flat.length + b0.flat.length : Nat) : Int)) := Lib.hid (by simp only [Tr.flat, List.length_cons, List.length_append]; omega)
    have hsz := HZ.out
    rw [HLE.out] at hsz
    simp only [ByteArray.size_append'] at hsz
    have hzsa0 : sa0.size ≤ 100000 := by omega
    have hzsb0 : sb0.size ≤ 100000 := by omega
    rw [HPR.out, HLN.out] at HQ
    clear HLE HPR HLN hsz g0 g1 gl gf m0 ml mf l0 ll
    go_upto_region 21 with fail
    go_quiet (fail)
    go_wp2_with fail
    go_ret2
    rw [HQ.out]
    exact ⟨rfl, below_drewN HB6.out _⟩
  | or a0 b0 =>
    obtain ⟨hr, HD⟩ := HAT.out
    have HDR := Lib.hid HD
    clear HD
    simp only [Tr.op, Tr.hd] at *
    go_wp2_with fail
    refine (operand_any a0 HS.out.1 (some ⟨b, off, none⟩) none n c 0 0 xs [] (a + 1) B (B + 1) B w4 (HR.out.below HB4.out (Nat.le_refl _)) hn HV.out (TrAt.sub (x := ⟨5, ⟨#[]⟩, 0⟩) (q := b0.flat) (r := hr) (by have h := HDR.out; simpa [Tr.flat] using h)) BL4.out BA4.out ⟨rfl, fun h => absurd h (Nat.lt_irrefl 0)⟩ (fun q o h => by cases h) (by omega) (Nat.le_refl _) (by omega) (by omega) (by have h := HZ.out; simp only [Tr.pr, List.length_append] at h; have hb0 := (paren_len b0.isOr (b0.pr NM)).1; omega) HG4.out).mono ?_
    rintro e w5 ⟨rfl, hg5, ha5⟩
    have HB5 := Lib.hid (below_only HB4.out hg5 (by omega) (by have := HB.out; omega))
    have BL5 := Lib.hid (BL4.out.grown hg5 (by intro h; injection h with h; omega))
    have BA5 := Lib.hid ha5
    have HG5 := Lib.hid (envG_grown HG4.out hg5 (by omega))
    clear hg5 ha5
    rw [show (([] : List Int).any fun x => decide (a0.op = x)) = false from rfl]
    obtain ⟨sa0, hsa0⟩ : ∃ q, q = bsB (paren false (a0.pr NM)) := ⟨_, rfl⟩
    rw [← hsa0]
    have HSa0 : Hid (bbs sa0 = a0.pr NM) := Lib.hid (by rw [hsa0]; rfl)
    clear hsa0
    go_wp2_with fail
    have hbo5 : Below w5.heap.size w5 (w5.alloc (.cells #[.int .i64 5] 3)) := (Below.refl _ _).alloc (Nat.le_refl _) _
    have hoo5 : Blk (w5.alloc (.cells #[.int .i64 5] 3)) w5.heap.size 3 #[.int .i64 5] := Blk.new _ _ _
    have hlt5 : B + 1 < w5.heap.size := BA5.out.lt
    obtain ⟨O5, hO5⟩ : ∃ q, q = w5.heap.size := ⟨_, rfl⟩
    rw [← hO5] at hoo5 hlt5 ⊢
    generalize (w5.alloc (.cells #[.int .i64 5] 3)) = wo5 at *
    have HRI5 : Hid (RdI wo5 wo5.heap.size (some ⟨O5, 0, none⟩) 1 [5]) := Lib.hid ⟨rfl, fun _ => ⟨O5, 0, rfl, hoo5.lt, fun j u hu => by
      rw [Nat.zero_add, hoo5.cell j]
      simpa [ints] using hu⟩⟩
    have HBO5 := Lib.hid (HB5.out.trans (hbo5.mono (by omega)))
    have BLO5 := Lib.hid (BL5.out.below hbo5 BL5.out.lt)
    have BAO5 := Lib.hid (BA5.out.below hbo5 BA5.out.lt)
    have HGO5 := Lib.hid (envG_below HG5.out hbo5 (by omega))
    clear hbo5 hoo5 hO5
    refine (operand_any b0 HS.out.2 (some ⟨b, off, none⟩) (some ⟨O5, 0, none⟩) n c 1 1 xs [5] (a + 1 + a0.flat.length) B (B + 1) B wo5 (HR.out.below HBO5.out (Nat.le_refl _)) hn HV.out (TrAt.sub2 (x := ⟨5, ⟨#[]⟩, 0⟩) (r := hr) (by have h := HDR.out; simpa [Tr.flat] using h)) BLO5.out BAO5.out HRI5.out (fun q o h => by injection h with h; injection h with h; omega) (by omega) (Nat.le_refl _) (by omega) (by omega) (by have h := HZ.out; simp only [Tr.pr, List.length_append] at h; have hb0 := (paren_len b0.isOr (b0.pr NM)).1; omega) HGO5.out).mono ?_
    rintro e w6 ⟨rfl, hg6, ha6⟩
    have HB6 := Lib.hid (below_only HBO5.out hg6 (by omega) (by have := HB.out; omega))
    have BL6 := Lib.hid (BLO5.out.grown hg6 (by intro h; injection h with h; omega))
    have BA6 := Lib.hid ha6
    have HG6 := Lib.hid (envG_grown HGO5.out hg6 (by omega))
    clear hg6 ha6
    rw [or5]
    obtain ⟨sb0, hsb0⟩ : ∃ q, q = bsB (paren b0.isOr (b0.pr NM)) := ⟨_, rfl⟩
    rw [← hsb0]
    have HSb0 : Hid (bbs sb0 = (paren b0.isOr (b0.pr NM))) := Lib.hid (by rw [hsb0]; rfl)
    clear hsb0
    have n0 := BA6.out.cell 0
    have nl := BA6.out.lt
    have nf := BA6.out.frozen
    have HPR : Hid (bsB ((.or a0 b0 : Tr).pr NM) = sa0 ++ ⟨#[32, 79, 82, 32]⟩ ++ sb0) := Lib.hid (by
      rw [show (.or a0 b0 : Tr).pr NM = a0.pr NM ++ (kOR ++ paren b0.isOr (b0.pr NM)) from rfl, ← HSa0.out, ← HSb0.out]
      apply bl_inj
      simp [bl, bsB, bbs, kGT, kLT, kNOT, kDELAY, kLATCH, kAND, kOR, kC, kR])
    have HLE : Hid (((.or a0 b0 : Tr).pr NM).length = (sa0 ++ ⟨#[32, 79, 82, 32]⟩ ++ sb0).size) := Lib.hid (by rw [← HPR.out]; rfl)
    have HLN : Hid ((((a + (.or a0 b0 : Tr).flat.length : Nat) : Int)) = ((a + 1 + a0.flat.length + b0.flat.length : Nat) : Int)) := Lib.hid (by simp only [Tr.flat, List.length_cons, List.length_append]; omega)
    have hsz := HZ.out
    rw [HLE.out] at hsz
    simp only [ByteArray.size_append'] at hsz
    have hzsa0 : sa0.size ≤ 100000 := by omega
    have hzsb0 : sb0.size ≤ 100000 := by omega
    rw [HPR.out, HLN.out] at HQ
    clear HLE HPR HLN hsz g0 g1 gl gf m0 ml mf l0 ll
    go_upto_region 25 with fail
    go_quiet (fail)
    go_wp2_with fail
    go_ret2
    rw [HQ.out]
    exact ⟨rfl, below_drewN HB6.out _⟩
  | delay v a0 =>
    obtain ⟨hr, HD⟩ := HAT.out
    have HDR := Lib.hid HD
    clear HD
    simp only [Tr.op, Tr.hd] at *
    go_wp2_with fail
    refine (operand_any a0 HS.out (some ⟨b, off, none⟩) none n c 0 0 xs [] (a + 1) B (B + 1) B w4 (HR.out.below HB4.out (Nat.le_refl _)) hn HV.out (TrAt.sub (x := ⟨6, ⟨#[]⟩, v⟩) (q := []) (r := hr) (by have h := HDR.out; simpa [Tr.flat] using h)) BL4.out BA4.out ⟨rfl, fun h => absurd h (Nat.lt_irrefl 0)⟩ (fun q o h => by cases h) (by omega) (Nat.le_refl _) (by omega) (by omega) (by have h := HZ.out; simp only [Tr.pr, List.length_append] at h; omega) HG4.out).mono ?_
    rintro e w5 ⟨rfl, hg5, ha5⟩
    have HB5 := Lib.hid (below_only HB4.out hg5 (by omega) (by have := HB.out; omega))
    have BL5 := Lib.hid (BL4.out.grown hg5 (by intro h; injection h with h; omega))
    have BA5 := Lib.hid ha5
    have HG5 := Lib.hid (envG_grown HG4.out hg5 (by omega))
    clear hg5 ha5
    rw [show (([] : List Int).any fun x => decide (a0.op = x)) = false from rfl]
    obtain ⟨sa0, hsa0⟩ : ∃ q, q = bsB (paren false (a0.pr NM)) := ⟨_, rfl⟩
    rw [← hsa0]
    have HSa0 : Hid (bbs sa0 = a0.pr NM) := Lib.hid (by rw [hsa0]; rfl)
    clear hsa0
    have n0 := BA5.out.cell 0
    have nl := BA5.out.lt
    have nf := BA5.out.frozen
    have HPR : Hid (bsB ((.delay v a0 : Tr).pr NM) = (⟨#[68, 69, 76, 65, 89, 40]⟩ ++ sa0 ++ ⟨#[44, 32]⟩ ++ nb ++ ⟨#[41]⟩ : ByteArray)) := Lib.hid (by
      rw [show (.delay v a0 : Tr).pr NM = kDELAY ++ (a0.pr NM ++ (kC ++ (NM.dg v ++ kR))) from rfl, ← HSa0.out, ← HNUM.out]
      apply bl_inj
      simp [bl, bsB, bbs, kGT, kLT, kNOT, kDELAY, kLATCH, kAND, kOR, kC, kR])
    have HLE : Hid (((.delay v a0 : Tr).pr NM).length = ((⟨#[68, 69, 76, 65, 89, 40]⟩ ++ sa0 ++ ⟨#[44, 32]⟩ ++ nb ++ ⟨#[41]⟩ : ByteArray)).size) := Lib.hid (by rw [← HPR.out]; rfl)
    have HLN : Hid ((((a + (.delay v a0 : Tr).flat.length : Nat) : Int)) = ((a + 1 + a0.flat.length : Nat) : Int)) := Lib.hid (by simp only [Tr.flat, List.length_cons, List.length_append]; omega)
    have hsz := HZ.out
    rw [HLE.out] at hsz
    simp only [ByteArray.size_append'] at hsz
    have hzsa0 : sa0.size ≤ 100000 := by omega
    rw [HPR.out, HLN.out] at HQ
    clear HLE HPR HLN hsz g0 g1 gl gf m0 ml mf l0 ll
    go_upto_region 17 with fail
    go_quiet (fail)
    go_wp2_with fail
    go_ret2
    rw [HQ.out]
    exact ⟨rfl, below_drewN HB5.out _⟩
  | latch a0 b0 =>
    obtain ⟨hr, HD⟩ := HAT.out
    have HDR := Lib.hid HD
    clear HD
    simp only [Tr.op, Tr.hd] at *
    go_wp2_with fail
    refine (operand_any a0 HS.out.1 (some ⟨b, off, none⟩) none n c 0 0 xs [] (a + 1) B (B + 1) B w4 (HR.out.below HB4.out (Nat.le_refl _)) hn HV.out (TrAt.sub (x := ⟨7, ⟨#[]⟩, 0⟩) (q := b0.flat) (r := hr) (by have h := HDR.out; simpa [Tr.flat] using h)) BL4.out BA4.out ⟨rfl, fun h => absurd h (Nat.lt_irrefl 0)⟩ (fun q o h => by cases h) (by omega) (Nat.le_refl _) (by omega) (by omega) (by have h := HZ.out; simp only [Tr.pr, List.length_append] at h; omega) HG4.out).mono ?_
    rintro e w5 ⟨rfl, hg5, ha5⟩
    have HB5 := Lib.hid (below_only HB4.out hg5 (by omega) (by have := HB.out; omega))
    have BL5 := Lib.hid (BL4.out.grown hg5 (by intro h; injection h with h; omega))
    have BA5 := Lib.hid ha5
    have HG5 := Lib.hid (envG_grown HG4.out hg5 (by omega))
    clear hg5 ha5
    rw [show (([] : List Int).any fun x => decide (a0.op = x)) = false from rfl]
    obtain ⟨sa0, hsa0⟩ : ∃ q, q = bsB (paren false (a0.pr NM)) := ⟨_, rfl⟩
    rw [← hsa0]
    have HSa0 : Hid (bbs sa0 = a0.pr NM) := Lib.hid (by rw [hsa0]; rfl)
    clear hsa0
    go_wp2_with fail
    refine (operand_any b0 HS.out.2 (some ⟨b, off, none⟩) none n c 0 0 xs [] (a + 1 + a0.flat.length) B (B + 1) B w5 (HR.out.below HB5.out (Nat.le_refl _)) hn HV.out (TrAt.sub2 (x := ⟨7, ⟨#[]⟩, 0⟩) (r := hr) (by have h := HDR.out; simpa [Tr.flat] using h)) BL5.out BA5.out ⟨rfl, fun h => absurd h (Nat.lt_irrefl 0)⟩ (fun q o h => by cases h) (by omega) (Nat.le_refl _) (by omega) (by omega) (by have h := HZ.out; simp only [Tr.pr, List.length_append] at h; omega) HG5.out).mono ?_
    rintro e w6 ⟨rfl, hg6, ha6⟩
    have HB6 := Lib.hid (below_only HB5.out hg6 (by omega) (by have := HB.out; omega))
    have BL6 := Lib.hid (BL5.out.grown hg6 (by intro h; injection h with h; omega))
    have BA6 := Lib.hid ha6
    have HG6 := Lib.hid (envG_grown HG5.out hg6 (by omega))
    clear hg6 ha6
    rw [show (([] : List Int).any fun x => decide (b0.op = x)) = false from rfl]
    obtain ⟨sb0, hsb0⟩ : ∃ q, q = bsB (paren false (b0.pr NM)) := ⟨_, rfl⟩
    rw [← hsb0]
    have HSb0 : Hid (bbs sb0 = b0.pr NM) := Lib.hid (by rw [hsb0]; rfl)
    clear hsb0
    have n0 := BA6.out.cell 0
    have nl := BA6.out.lt
    have nf := BA6.out.frozen
    have HPR : Hid (bsB ((.latch a0 b0 : Tr).pr NM) = (⟨#[76, 65, 84, 67, 72, 40]⟩ ++ sa0 ++ ⟨#[44, 32]⟩ ++ sb0 ++ ⟨#[41]⟩ : ByteArray)) := Lib.hid (by
      rw [show (.latch a0 b0 : Tr).pr NM = kLATCH ++ (a0.pr NM ++ (kC ++ (b0.pr NM ++ kR))) from rfl, ← HSa0.out, ← HSb0.out]
      apply bl_inj
      simp [bl, bsB, bbs, kGT, kLT, kNOT, kDELAY, kLATCH, kAND, kOR, kC, kR])
    have HLE : Hid (((.latch a0 b0 : Tr).pr NM).length = ((⟨#[76, 65, 84, 67, 72, 40]⟩ ++ sa0 ++ ⟨#[44, 32]⟩ ++ sb0 ++ ⟨#[41]⟩ : ByteArray)).size) := Lib.hid (by rw [← HPR.out]; rfl)
    have HLN : Hid ((((a + (.latch a0 b0 : Tr).flat.length : Nat) : Int)) = ((a + 1 + a0.flat.length + b0.flat.length : Nat) : Int)) := Lib.hid (by simp only [Tr.flat, List.length_cons, List.length_append]; omega)
    have hsz := HZ.out
    rw [HLE.out] at hsz
    simp only [ByteArray.size_append'] at hsz
    have hzsa0 : sa0.size ≤ 100000 := by omega
    have hzsb0 : sb0.size ≤ 100000 := by omega
    rw [HPR.out, HLN.out] at HQ
    clear HLE HPR HLN hsz g0 g1 gl gf m0 ml mf l0 ll
    go_upto_region 28 with fail
    go_quiet (fail)
    go_wp2_with fail
    go_ret2
    rw [HQ.out]
    exact ⟨rfl, below_drewN HB6.out _⟩
/-- relaylang.text at every tree -/
theorem text_any : ∀ t : Tr, TextOk t
  | .flag s => text_step _ trivial
  | .gt s v => text_step _ trivial
  | .lt s v => text_step _ trivial
  | .not a => text_step _ (text_any a)
  | .and a b => text_step _ ⟨text_any a, text_any b⟩
  | .or a b => text_step _ ⟨text_any a, text_any b⟩
  | .delay v a => text_step _ (text_any a)
  | .latch a b => text_step _ ⟨text_any a, text_any b⟩
end Go.Proofs.YtaanoljfhnfjoaaGreatDoor
