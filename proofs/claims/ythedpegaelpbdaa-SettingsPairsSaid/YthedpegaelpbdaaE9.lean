/- settings.circle: the walk. -/
import Derived.Test.YthedpegaelpbdaaE8
import Derived.Test.YthedpegaelpbdaaV2
namespace Go.Proofs.Ythedpegaelpbdaa
open Go.ChangeShapes Go.WideShapes Go.ChangeAt Go.RowKit Go.Joins Go.Deep
set_option linter.unusedVariables false
attribute [local go_sem ↓] execOp_call_val
attribute [local go_sem] callVal_func setCell_drewN alloc_drewN sEq_walk NetH.cells


set_option maxHeartbeats 1000000 in
theorem indexFuncPP (F : FuncId) (cap : Array Value) (A : Option Addr) (n c : Nat) (zs : List (Nat × Nat)) (p : Nat × Nat → Bool) (I : World → Prop)
    (hF : ∀ (args : Array Value) (w : World), (callFunc F args).run Try.prog w = .ok (.enter F args) w)
    (hI : ∀ w', I w' → RdE w' w'.heap.size A n zs)
    (hf : ∀ (z : Nat × Nat) (w' : World), z ∈ zs → I w' → Calls Try.prog F (#[.agg #[.int .i64 z.1, .int .i64 z.2]] ++ cap) w' fun e w'' => e = .returned (.bool (p z)) ∧ I w'')
    (hn : n ≤ 9223372036854775807) (w : World) (hw : I w) :
    Calls Try.prog 102 #[.slice A n c, .func (.func F) #[] cap] w fun e w' => e = .returned (.int .i64 (idxGo p zs 0)) ∧ I w' := by
  have HF := Lib.hid hf
  have HII := Lib.hid hI
  have HI := Lib.hid hw
  have hlen := Lib.hid (hI w hw).1
  clear hf hw hI
  go_enter Try.func102, Try.ntmps102
  go_wp2_with fail
  go_loopw [5, 8] (fun _ i wr => ∃ k : Nat, k ≤ n ∧ i = .int .i64 k ∧ I wr ∧ idxGo p zs 0 = idxGo p (zs.drop k) k) (fun _ i _ => n - (intOf i).toNat)
  case atStart => exact ⟨0, by omega, rfl, HI.out, rfl⟩
  case round =>
    obtain ⟨k, hk, rfl, hIw, hidx⟩ := hrel
    have hrd := HII.out wr hIw
    have HIW := Lib.hid hIw
    have HIDX := Lib.hid hidx
    clear hIw hidx
    by_cases hlt : k < n
    · obtain ⟨z, hz⟩ : ∃ z, zs[k]? = some z := ⟨_, List.getElem?_eq_getElem (by have := hlen.out; omega)⟩
      have HM := Lib.hid (List.mem_of_getElem? hz)
      obtain ⟨b, off, rfl, hblt⟩ := hrd.form (by omega)
      obtain ⟨c0, c1⟩ := hrd.at_ hz
      have HZ := Lib.hid (drop_cons hz)
      clear hz
      go_wp2_with fail
      refine (HF.out z wr HM.out HIW.out).mono ?_
      cases hp : p z with
      | true =>
        rintro e w1 ⟨rfl, hI1⟩
        have HI1 := Lib.hid hI1
        have HP := Lib.hid hp
        clear hI1 hp
        go_wp2_with fail
        go_ret
        exact ⟨ret_int (by rw [HIDX.out, HZ.out]; simp [idxGo, HP.out]), HI1.out⟩
      | false =>
        rintro e w1 ⟨rfl, hI1⟩
        have HI1 := Lib.hid hI1
        have HP := Lib.hid hp
        clear hI1 hp
        go_wp2_with fail
        go_roundw
        case rel => exact ⟨k + 1, by omega, by go_num, HI1.out, by rw [HIDX.out, HZ.out]; simp [idxGo, HP.out]⟩
        case measure => simp [intOf]; omega
    · have hd : zs.drop k = [] := by rw [List.drop_eq_nil_iff]; have := hlen.out; omega
      have HD := Lib.hid hd
      clear hd hrd
      go_wp2_with fail
      go_ret
      exact ⟨ret_int (by rw [HIDX.out, HD.out]; rfl), HIW.out⟩

theorem containsFuncPP (F : FuncId) (cap : Array Value) (A : Option Addr) (n c : Nat) (zs : List (Nat × Nat)) (p : Nat × Nat → Bool) (I : World → Prop)
    (hF : ∀ (args : Array Value) (w : World), (callFunc F args).run Try.prog w = .ok (.enter F args) w)
    (hI : ∀ w', I w' → RdE w' w'.heap.size A n zs)
    (hf : ∀ (z : Nat × Nat) (w' : World), z ∈ zs → I w' → Calls Try.prog F (#[.agg #[.int .i64 z.1, .int .i64 z.2]] ++ cap) w' fun e w'' => e = .returned (.bool (p z)) ∧ I w'')
    (hn : n ≤ 9223372036854775807) (w : World) (hw : I w) :
    Calls Try.prog 76 #[.slice A n c, .func (.func F) #[] cap] w fun e w' => e = .returned (.bool (zs.any p)) ∧ I w' := by
  have HF := Lib.hid hf
  have HII := Lib.hid hI
  have HI := Lib.hid hw
  have HA := Lib.hid (idxGo_any p zs 0)
  clear hf hw hI
  go_enter Try.func76, Try.ntmps76
  go_wp2_with fail
  refine (indexFuncPP F cap A n c zs p I hF HII.out HF.out hn _ HI.out).mono ?_
  rintro e w1 ⟨rfl, hI1⟩
  have HI1 := Lib.hid hI1
  clear hI1
  go_wp2_with fail
  go_ret
  exact ⟨ret_bool HA.out, HI1.out⟩

def bools (l : List Bool) : Array Value := (l.map Value.bool).toArray
theorem bools_get {l : List Bool} {g i : Nat} {w : World} (h : Blk w g 4 (bools l)) (hi : i < l.length) : w.cell? ⟨g, i, none⟩ = some (.bool (l.getD i false)) := by
  rw [h.cell]
  unfold bools
  rw [List.getElem?_toArray, List.getElem?_map, List.getD_eq_getElem?_getD, List.getElem?_eq_getElem hi]; rfl
theorem bools_set {l : List Bool} {g i : Nat} {w : World} (h : Blk w g 4 (bools l)) (v : Bool) : Blk (w.setCell ⟨g, i, none⟩ (.bool v)) g 4 (bools (l.set i v)) := by
  have h := h.set_ i (.bool v)
  unfold bools at h ⊢
  rw [List.setIfInBounds_toArray, ← List.map_set] at h
  exact h
theorem index_bool (g n c : Nat) (ls : List Bool) (w : World) (hb : Blk w g 4 (bools ls)) (hl : ls.length = n) (hn : n ≤ 1000) :
    Calls Try.prog 127 #[.slice (some ⟨g, 0, none⟩) n c, .bool true] w fun e w' => e = .returned (.int .i64 (idxGo (fun x => x) ls 0)) ∧ w = w' := by
  have HB := Lib.hid hb
  have HL := Lib.hid hl
  have hglt := hb.lt
  clear hb hl
  go_enter Try.func127, Try.ntmps127
  go_wp2_with fail
  go_loop [5, 8] (fun _ i => ∃ k : Nat, k ≤ n ∧ i = .int .i64 k ∧ idxGo (fun x => x) ls 0 = idxGo (fun x => x) (ls.drop k) k) (fun _ i => n - (intOf i).toNat)
  case atStart => exact ⟨0, by omega, rfl, rfl⟩
  case round =>
    obtain ⟨k, hk, rfl, hidx⟩ := hrel
    have HIDX := Lib.hid hidx
    clear hidx
    by_cases hlt : k < n
    · obtain ⟨y, hy⟩ : ∃ y, ls[k]? = some y := ⟨_, List.getElem?_eq_getElem (by have := HL.out; omega)⟩
      have hcell := bools_get HB.out (i := k) (by have := HL.out; omega)
      rw [List.getD_eq_getElem?_getD, hy] at hcell
      have HZ := Lib.hid (drop_cons hy)
      have hkI : (k : Int) < (n : Int) := by omega
      clear hy
      cases y with
      | true =>
        go_wp2_with fail
        go_ret
        exact ⟨ret_int (by rw [HIDX.out, HZ.out]; simp [idxGo]), rfl⟩
      | false =>
        go_wp2_with fail
        go_round
        case rel => exact ⟨k + 1, by omega, by go_num, by rw [HIDX.out, HZ.out]; simp [idxGo]⟩
        case measure => simp [intOf]; omega
    · have hd : ls.drop k = [] := by rw [List.drop_eq_nil_iff]; have := HL.out; omega
      have HD := Lib.hid hd
      clear hd
      go_wp2_with fail
      go_ret
      exact ⟨ret_int (by rw [HIDX.out, HD.out]; rfl), rfl⟩
theorem contains_bool (g n c : Nat) (ls : List Bool) (w : World) (hb : Blk w g 4 (bools ls)) (hl : ls.length = n) (hn : n ≤ 1000) :
    Calls Try.prog 101 #[.slice (some ⟨g, 0, none⟩) n c, .bool true] w fun e w' => e = .returned (.bool (ls.any fun x => x)) ∧ w = w' := by
  have HA := Lib.hid (idxGo_any (fun x : Bool => x) ls 0)
  have HB := Lib.hid hb
  clear hb
  go_enter Try.func101, Try.ntmps101
  go_wp2_with fail
  refine (index_bool g n c ls w HB.out hl hn).mono ?_
  rintro e w1 ⟨rfl, rfl⟩
  go_wp2_with fail
  go_ret
  exact ⟨ret_bool HA.out, rfl⟩
/-- relay j is taken out, unless a main relay of it is left -/
def cirK (ps : List (Nat × Nat)) (left : List Bool) (j : Nat) : List Bool := if left.getD j false = true ∧ (ps.any fun p => decide (p.2 = j) && left.getD p.1 false) = false then left.set j false else left
def cirF (ps : List (Nat × Nat)) (left : List Bool) : Nat → List Bool
  | 0 => left
  | j + 1 => cirK ps (cirF ps left j) j
def cirN (ps : List (Nat × Nat)) (n : Nat) : Nat → List Bool
  | 0 => List.replicate n true
  | m + 1 => cirF ps (cirN ps n m) n
def cirB (ps : List (Nat × Nat)) (n : Nat) : Bool := (cirN ps n n).any fun x => x
theorem cirK_len (ps : List (Nat × Nat)) (left : List Bool) (j : Nat) : (cirK ps left j).length = left.length := by unfold cirK; split <;> simp
theorem cirF_len (ps : List (Nat × Nat)) (left : List Bool) : ∀ j, (cirF ps left j).length = left.length
  | 0 => rfl
  | j + 1 => by show (cirK _ _ _).length = _; rw [cirK_len, cirF_len ps left j]
theorem cirN_len (ps : List (Nat × Nat)) (n : Nat) : ∀ m, (cirN ps n m).length = n
  | 0 => by simp [cirN]
  | m + 1 => by show (cirF _ _ _).length = _; rw [cirF_len, cirN_len ps n m]
theorem cclo_any (p : Nat × Nat) (kb tb g n j : Nat) (left : List Bool) (w : World) (hp : p.1 < n) (hl : left.length = n) (hk : w.cell? ⟨kb, 0, none⟩ = some (.int .i64 j)) (ht : w.cell? ⟨tb, 0, none⟩ = some (.slice (some ⟨g, 0, none⟩) n n)) (hg : Blk w g 4 (bools left)) :
    Calls Try.prog 100 (#[.agg #[.int .i64 p.1, .int .i64 p.2]] ++ #[.pointer (some ⟨kb, 0, none⟩), .pointer (some ⟨tb, 0, none⟩)]) w fun e w' => e = .returned (.bool (decide (p.2 = j) && left.getD p.1 false)) ∧ Below w.heap.size w w' := by
  have hc := bools_get hg (i := p.1) (by omega)
  have hkl := World.block_lt_of_cell? w ⟨kb, 0, none⟩ hk
  have htl := World.block_lt_of_cell? w ⟨tb, 0, none⟩ ht
  have hgl := hg.lt
  have hpI : (p.1 : Int) < (n : Int) := by omega
  clear hg
  obtain ⟨xa, xb⟩ := p
  dsimp only at *
  generalize left.getD xa false = lv at *
  show Calls Try.prog 100 #[.agg #[.int .i64 xa, .int .i64 xb], .pointer (some ⟨kb, 0, none⟩), .pointer (some ⟨tb, 0, none⟩)] w _
  by_cases hx : xb = j
  · subst hx
    go_enter Try.func100, Try.ntmps100
    go_wp2_with fail
    go_ret
    exact ⟨ret_bool (by simp), (Below.refl _ _).alloc (Nat.le_refl _) _⟩
  · have hxI : ((xb : Int) == (j : Int)) = false := by simp; omega
    have HX := Lib.hid hx
    clear hx
    go_enter Try.func100, Try.ntmps100
    go_wp2_with fail
    go_ret
    exact ⟨ret_bool (by simp [HX.out]), (Below.refl _ _).alloc (Nat.le_refl _) _⟩
theorem enter_cclo (args : Array Value) (w : World) : (callFunc 100 args).run Try.prog w = .ok (.enter 100 args) w :=
  callFunc_enter Try.func100 (by kernel_rfl) rfl args w
set_option maxRecDepth 100000 in
set_option maxHeartbeats 4000000 in
theorem circle_any (n : Nat) (A : Option Addr) (c : Nat) (ps : List (Nat × Nat)) (w : World) (hP : RdE w w.heap.size A ps.length ps) (hn : n ≤ 24) (hok : ∀ p ∈ ps, p.1 < n) (hpl : ps.length ≤ 256) :
    Calls Try.prog 73 #[.int .i64 n, .slice A ps.length c] w fun e w' => e = .returned (.bool (cirB ps n)) ∧ Below w.heap.size w w' := by
  have HP := Lib.hid hP
  have HOK := Lib.hid hok
  have HB0 : Hid (Below w.heap.size w (w.alloc (.cells #[.bool true] 4))) := Lib.hid ((Below.refl _ _).alloc (Nat.le_refl _) _)
  have hm1 : (w.alloc (.cells #[.bool true] 4)).cell? ⟨w.heap.size, 0, none⟩ = some (.bool true) := (Blk.new w 4 #[.bool true]).cell 0
  clear hP hok
  go_enter Try.func73, Try.ntmps73
  go_wp2_with fail
  generalize w.alloc (.cells #[.bool true] 4) = w1 at *
  refine (repeat_bool true w.heap.size n w1 hm1 (by omega)).mono ?_
  rintro e w2 ⟨g, rfl, hg, hblk, hb⟩
  have HB2 := Lib.hid (HB0.out.trans (hb.mono HB0.out.size))
  have HG2 : Hid (Blk w2 g 4 (bools (List.replicate n true))) := Lib.hid (by unfold bools; rw [List.map_replicate]; exact hblk)
  have hgw : w.heap.size ≤ g := Nat.le_trans HB0.out.size hg
  have hgl := hblk.lt
  clear hm1 hg hblk hb HB0
  go_wp2_with fail
  have HB3 := Lib.hid (HB2.out.alloc HB2.out.size (.cells #[.slice (some ⟨g, 0, none⟩) n n] 105))
  have HG3 := Lib.hid (HG2.out.alloc (.cells #[.slice (some ⟨g, 0, none⟩) n n] 105))
  have HT3 := Lib.hid (Blk.new w2 105 #[.slice (some ⟨g, 0, none⟩) n n])
  have htw : w.heap.size ≤ w2.heap.size := HB2.out.size
  have hgt : g ≠ w2.heap.size := by omega
  generalize w2.alloc (.cells #[.slice (some ⟨g, 0, none⟩) n n] 105) = w3 at *
  generalize w2.heap.size = tb at *
  go_loopw [11] (fun i wr => ∃ m : Nat, m ≤ n ∧ i = .int .i64 m ∧ Below w.heap.size w wr ∧ Blk wr tb 105 #[.slice (some ⟨g, 0, none⟩) n n] ∧ Blk wr g 4 (bools (cirN ps n m))) (fun i _ => n - (intOf i).toNat)
  case atStart => exact ⟨0, by omega, rfl, HB3.out, HT3.out, HG3.out⟩
  case round =>
    clear HB3 HG3 HT3
    obtain ⟨m, hm, rfl, hb, ht, hg⟩ := hrel
    have HB := Lib.hid hb
    have HT := Lib.hid ht
    have HG := Lib.hid hg
    have t0 := ht.cell 0
    have tlt := ht.lt
    clear hb ht hg
    by_cases hlt : m < n
    · have hmI : (m : Int) < (n : Int) := by omega
      clear t0 tlt
      go_wp2_with fail
      go_loopw [14] (fun i wr => ∃ j : Nat, j ≤ n ∧ i = .int .i64 j ∧ Below w.heap.size w wr ∧ Blk wr tb 105 #[.slice (some ⟨g, 0, none⟩) n n] ∧ Blk wr g 4 (bools (cirF ps (cirN ps n m) j))) (fun i _ => n - (intOf i).toNat)
      case atStart => exact ⟨0, by omega, rfl, HB.out, HT.out, HG.out⟩
      case round =>
        clear HB HT HG
        obtain ⟨j, hj, rfl, hb, ht, hg⟩ := hrel
        have HB := Lib.hid hb
        have HT := Lib.hid ht
        have HG := Lib.hid hg
        clear hb ht hg
        by_cases hltj : j < n
        · have HLN : Hid ((cirF ps (cirN ps n m) j).length = n) := Lib.hid (by rw [cirF_len, cirN_len])
          have HS : Hid (cirF ps (cirN ps n m) (j + 1) = cirK ps (cirF ps (cirN ps n m) j) j) := Lib.hid rfl
          generalize cirF ps (cirN ps n m) j = left at *
          have HKA := Lib.hid ((Below.refl wr.heap.size wr).alloc (Nat.le_refl _) (.cells #[.int .i64 j] 3))
          have HBA := Lib.hid (HB.out.alloc HB.out.size (.cells #[.int .i64 j] 3))
          have HTA := Lib.hid (HT.out.alloc (.cells #[.int .i64 j] 3))
          have HGA := Lib.hid (HG.out.alloc (.cells #[.int .i64 j] 3))
          have HJA := Lib.hid (Blk.new wr 3 #[.int .i64 j])
          have t0 := HTA.out.cell 0
          have tlt := HTA.out.lt
          have j0 := HJA.out.cell 0
          have hc := bools_get HGA.out (i := j) (by have := HLN.out; omega)
          have hjI : (j : Int) < (n : Int) := by omega
          have HPW := Lib.hid ((HP.out.below HBA.out (Nat.le_refl _)).more HBA.out.size)
          cases hv : left.getD j false with
          | false =>
            rw [hv] at hc
            have HV := Lib.hid hv
            clear hv
            go_wp2_with fail
            go_roundw
            case rel => exact ⟨j + 1, by omega, by go_num, HBA.out, HTA.out, by rw [HS.out]; unfold cirK; rw [if_neg (by rw [HV.out]; simp)]; exact HGA.out⟩
            case measure => simp [intOf]; omega
          | true =>
            rw [hv] at hc
            have HV := Lib.hid hv
            clear hv
            go_wp2_with fail
            generalize wr.alloc (.cells #[.int .i64 j] 3) = W at *
            generalize wr.heap.size = kb at *
            refine (containsFuncPP _ _ A ps.length c ps (fun p => decide (p.2 = j) && left.getD p.1 false) (fun w' => Below W.heap.size W w') enter_cclo (fun w' hb => (HPW.out.below hb (Nat.le_refl _)).more hb.size)
              (fun z w' hz hb => (cclo_any z kb tb g n j left w' (HOK.out z hz) HLN.out ((hb.cell (p := ⟨kb, 0, none⟩) HJA.out.lt).trans (HJA.out.cell 0)) ((hb.cell (p := ⟨tb, 0, none⟩) HTA.out.lt).trans (HTA.out.cell 0)) (HGA.out.below hb HGA.out.lt)).mono fun e w'' ⟨he, hb2⟩ => ⟨he, hb.trans (hb2.mono hb.size)⟩) (by omega) W (Below.refl _ _)).mono ?_
            generalize hq : (ps.any fun p => decide (p.2 = j) && left.getD p.1 false) = q
            rintro e w5 ⟨rfl, hb5⟩
            have HQ := Lib.hid hq
            have HB5 := Lib.hid (HBA.out.trans (hb5.mono HBA.out.size))
            have HT5 := Lib.hid (HTA.out.below hb5 HTA.out.lt)
            have HG5 := Lib.hid (HGA.out.below hb5 HGA.out.lt)
            have HJ5 := Lib.hid (HJA.out.below hb5 HJA.out.lt)
            clear hb5 hq t0 tlt j0 hc
            have t0 := HT5.out.cell 0
            have tlt := HT5.out.lt
            have j0 := HJ5.out.cell 0
            have jlt := HJ5.out.lt
            have glt := HG5.out.lt
            have hc := bools_get HG5.out (i := j) (by have := HLN.out; omega)
            have hf := HG5.out.frozen j
            cases q with
            | true =>
              go_wp2_with fail
              go_roundw
              case rel => exact ⟨j + 1, by omega, by go_num, HB5.out, HT5.out, by rw [HS.out]; unfold cirK; rw [if_neg (by rw [HQ.out]; simp)]; exact HG5.out⟩
              case measure => simp [intOf]; omega
            | false =>
              go_wp2_with fail
              go_roundw
              case rel => exact ⟨j + 1, by omega, by go_num, HB5.out.setCell (by simp; omega) _, HT5.out.far (by simp; omega) _, by rw [HS.out]; unfold cirK; rw [if_pos ⟨HV.out, HQ.out⟩]; exact bools_set HG5.out false⟩
              case measure => simp [intOf]; omega
        · have hkk : n = j := by omega
          subst hkk
          go_wp2_with fail
          go_roundw
          case rel => exact ⟨m + 1, by omega, by go_num, HB.out, HT.out, HG.out⟩
          case measure => simp [intOf]; omega
    · have hkk : m = n := by omega
      subst hkk
      go_wp2_with fail
      refine (contains_bool g m m (cirN ps m m) wr HG.out (cirN_len ps m m) (by omega)).mono ?_
      rintro e w9 ⟨rfl, rfl⟩
      go_wp2_with fail
      go_ret
      exact ⟨rfl, HB.out⟩
end Go.Proofs.Ythedpegaelpbdaa
