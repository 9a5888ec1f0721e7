/- The law RelaylangOrders: the walk. -/
import Derived.Test.YtaanoljfhnfjoaaGreatDoorRG6
import Derived.Test.YtaanoljfhnfjoaaGreatDoorDG
import Derived.Test.YtaanoljfhnfjoaaGreatDoorI0
namespace Go.Proofs.YtaanoljfhnfjoaaGreatDoor
set_option linter.unusedVariables false
set_option linter.unusedSimpArgs false

theorem ruleGo_first : ∀ (p : List Rl) (s : ByteArray) (k j : Nat) (r : Rl), p[j]? = some r → r.name = s → (∀ i x, i < j → p[i]? = some x → x.name ≠ s) → ruleGo p s k = ((k + j : Nat) : Int)
  | [], s, k, j, r, h, _, _ => by simp at h
  | x :: p, s, k, 0, r, h, hr, _ => by
    simp only [List.getElem?_cons_zero, Option.some.injEq] at h
    unfold ruleGo
    rw [h, if_pos hr]
    rfl
  | x :: p, s, k, j + 1, r, h, hr, hn => by
    unfold ruleGo
    rw [if_neg (hn 0 x (by omega) rfl), ruleGo_first p s (k + 1) j r (by simpa using h) hr (fun i y hi hy => hn (i + 1) y (by omega) (by simpa using hy))]
    congr 1
    omega
theorem ruleR_none {p : List Rl} {s : ByteArray} (h : ruleR p s = -1) : ∀ x ∈ p, x.name ≠ s := by
  rcases ruleR_bd p s with ⟨_, h2⟩ | ⟨i, x, h1, _⟩
  · exact h2
  · omega
theorem ruleR_at {p : List Rl} (h : ckR p = 0) {j : Nat} {r : Rl} (hj : p[j]? = some r) : ruleR p r.name = (j : Int) := by
  have hok := ckR_ok h
  have hn := ruleR_none (hok.rule j r hj).new
  have := ruleGo_first p r.name 0 j r hj rfl (fun i x hi hx => hn x (by
    rw [List.mem_iff_getElem?]
    exact ⟨i, by rw [List.getElem?_take_of_lt hi]; exact hx⟩))
  unfold ruleR
  rw [this, Nat.zero_add]
theorem orders_law {p : List Rl} {o : List Nat} (h : ckR p = 0) (ho : orderR p = some o) : o.length = p.length ∧ ∀ (i k : Nat), o[i]? = some k → k < p.length ∧ k ∉ o.take i ∧
    ∀ r, p[k]? = some r → (∀ x ∈ r.expr, x.op ≠ 6) → ∀ x ∈ r.expr, x.op = 0 → ∀ (j : Nat) (r' : Rl), p[j]? = some r' → r'.name = x.name → j ∈ o.take i := by
  obtain ⟨hok, hlen⟩ := orderR_ok ho
  refine ⟨hlen, fun i k hk => ⟨hok.lt k (List.mem_of_getElem? hk), fun hm => ?_, fun r hr hd x hx h0 j r' hj hn => ?_⟩⟩
  · obtain ⟨a, ha⟩ := List.mem_iff_getElem?.1 hm
    have hai : a < i := by
      have := (List.getElem?_eq_some_iff.1 ha).1
      rw [List.length_take] at this
      omega
    rw [List.getElem?_take_of_lt hai] at ha
    have hil := (List.getElem?_eq_some_iff.1 hk).1
    have := (List.getElem?_inj (by omega : a < o.length) hok.nodup).1 (ha.trans hk.symm)
    omega
  · obtain ⟨q, hq⟩ := List.mem_iff_getElem?.1 hx
    have hrn : ruleR p x.name = (j : Int) := by rw [← hn]; exact ruleR_at h hj
    have hm := needs_mem p r.expr hd r.expr.length 0 q x (by omega) (by omega) hq h0 (by omega)
    rw [hrn, Int.toNat_natCast] at hm
    exact hok.needs i k r hk hr j hm
end Go.Proofs.YtaanoljfhnfjoaaGreatDoor
namespace Go.Proofs.YtaanoljfhnfjoaaGreatDoor
open Go.ChangeShapes Go.WideShapes Go.ChangeAt Go.RowKit
set_option linter.unusedVariables false
attribute [local go_sem ↓] execOp_call_val
attribute [local go_sem] callVal_func setCell_drewN alloc_drewN

set_option maxHeartbeats 1000000 in
theorem hasInt_any (A : Option Addr) (n c : Nat) (zs : List Int) (z : Int) (w : World) (hr : RdI w w.heap.size A n zs) (hn : n ≤ 9223372036854775807) :
    Calls Tryz.prog 13 #[.slice A n c, .int .i64 z] w fun e w' => e = .returned (.bool (zs.any (· == z))) ∧ w = w' := by
  have hlen := Lib.hid hr.len
  go_enter Tryz.func13, Tryz.ntmps13
  go_wp2_with fail
  go_loop [6, 9] (fun _ i => ∃ k : Nat, k ≤ n ∧ i = .int .i64 k ∧ zs.any (· == z) = (zs.drop k).any (· == z)) (fun _ i => n - (intOf i).toNat)
  case atStart => exact ⟨0, by omega, rfl, rfl⟩
  case round =>
    obtain ⟨k, hk, rfl, hidx⟩ := hrel
    have HIDX := Lib.hid hidx
    clear hidx
    by_cases hlt : k < n
    · obtain ⟨y, hy⟩ : ∃ y, zs[k]? = some y := ⟨_, List.getElem?_eq_getElem (by have := hlen.out; omega)⟩
      obtain ⟨b, off, rfl, hblt, _⟩ := hr.2 (by omega)
      have hcell := hr.at_ hy
      have HZ := Lib.hid (drop_cons hy)
      clear hy
      cases hp : (y == z) with
      | true =>
        have HP := Lib.hid hp
        go_wp2_with fail
        go_ret
        exact ⟨ret_bool (by rw [HIDX.out, HZ.out]; simp [HP.out]), rfl⟩
      | false =>
        have HP := Lib.hid hp
        go_wp2_with fail
        go_round
        case rel => exact ⟨k + 1, by omega, by go_num, by rw [HIDX.out, HZ.out]; simp [HP.out]⟩
        case measure => simp [intOf]; omega
    · have hd : zs.drop k = [] := by rw [List.drop_eq_nil_iff]; have := hlen.out; omega
      have HD := Lib.hid hd
      clear hd
      go_wp2_with fail
      go_ret
      exact ⟨ret_bool (by rw [HIDX.out, HD.out]; rfl), rfl⟩

end Go.Proofs.YtaanoljfhnfjoaaGreatDoor
namespace Go.Proofs.YtaanoljfhnfjoaaGreatDoor
open Go.ChangeShapes Go.WideShapes Go.ChangeAt Go.RowKit
set_option linter.unusedVariables false
set_option linter.unusedSimpArgs false
attribute [local go_sem ↓] execOp_call_val
attribute [local go_sem] callVal_func setCell_drewN alloc_drewN sEq_walk

theorem natJ_take (l : List Nat) (k : Nat) : (natJ l).take k = natJ (l.take k) := by unfold natJ; rw [List.map_take]
theorem natJ_get {l : List Nat} {i k : Nat} (h : l[i]? = some k) : (natJ l)[i]? = some (k : Int) := by unfold natJ; rw [List.getElem?_map, h]; rfl
theorem natJ_has (l : List Nat) (k : Nat) : ((natJ l).any (· == (k : Int))) = decide (k ∈ l) := by
  unfold natJ
  rw [List.any_map, Bool.eq_iff_iff, List.any_eq_true, decide_eq_true_eq]
  constructor
  · rintro ⟨x, hx, h⟩
    have : (x : Int) = (k : Int) := by simpa using h
    have : x = k := by omega
    rw [← this]; exact hx
  · intro h
    exact ⟨k, h, by simp⟩
theorem rdI_take {w : World} {B n m : Nat} {A : Option Addr} {zs : List Int} (h : RdI w B A n zs) (hm : m ≤ n) : RdI w B A m (zs.take m) := by
  have hl := h.len
  refine ⟨by simp [ints]; omega, fun h0 => ?_⟩
  obtain ⟨b, off, e, hlt, hc⟩ := h.2 (by omega)
  refine ⟨b, off, e, hlt, fun j u hu => hc j u ?_⟩
  unfold ints at hu ⊢
  rw [List.map_take] at hu
  have hj := (List.getElem?_eq_some_iff.1 hu).1
  rw [List.length_take] at hj
  rwa [List.getElem?_take_of_lt (by omega)] at hu
set_option maxRecDepth 100000 in
set_option maxHeartbeats 8000000 in
theorem orders_any (A : Option Addr) (n c : Nat) (hs : List Rh) (w : World) (hR : RdRh w w.heap.size A n hs) (hn : n ≤ c) (hc : c ≤ maxLen) (hf : ∀ z ∈ hs, z.r.Fit) (hE : EnvJ w) :
    Calls Tryz.prog 5 #[.slice A n c] w fun e w' => e = .returned (.bool true) ∧ Below w.heap.size w w' := by
  have HE := Lib.hid hE
  have HR := Lib.hid hR
  have HF := Lib.hid hf
  have HC := Lib.hid hc
  have HPL : Hid ((rls hs).length = n) := Lib.hid (by unfold rls; rw [List.length_map]; exact hR.len)
  clear hE hR hf hc
  go_enter Tryz.func5, Tryz.ntmps5
  go_wp2_with fail
  refine (rlworks_any w HE.out).mono ?_
  rintro e w1 ⟨rfl, k1⟩
  have HB1 := Lib.hid k1
  have HR1 := Lib.hid (HR.out.up k1)
  clear k1
  go_wp2_with fail
  refine (rorder_any A n c hs w1 HR1.out hn HC.out HF.out).mono ?_
  rintro e w2 ⟨hb2, hcs⟩
  have HB2 := Lib.hid (HB1.out.trans (hb2.mono HB1.out.size))
  have HR2 := Lib.hid (HR1.out.up hb2)
  have HCH := Lib.hid (rcheck_any A n c hs w2 HR2.out hn HC.out HF.out)
  clear hb2
  rcases hcs with ⟨hck, rfl⟩ | ⟨hck, o, v, ho, rfl, hown⟩
  · generalize ckR (rls hs) = ck at *
    have h0b : (ck != 0) = true := by simpa using hck
    clear hck
    go_wp2_with fail
    refine HCH.out.mono ?_
    rintro e w3 ⟨rfl, k3⟩
    have HB3 := Lib.hid (HB2.out.trans (k3.mono HB2.out.size))
    clear k3
    go_wp2_with fail
    go_ret
    exact ⟨by simp, HB3.out⟩
  obtain ⟨hol, hlaw⟩ := orders_law hck ho
  obtain ⟨OA, oc, rfl, hro, hoc, hocm, _⟩ := own_rd hown
  rw [HPL.out] at hol
  have HLAW := Lib.hid hlaw
  have HOL := Lib.hid hol
  have HPO := Lib.hid (ckR_ok hck)
  have HO2 := Lib.hid (show RdI w2 w2.heap.size OA o.length (natJ o) from hro)
  rw [hol] at hoc HO2 ⊢
  have hn16 : n ≤ 16 := by have := HPO.out.len; have := HPL.out; omega
  have hocI : oc ≤ 9223372036854775807 := by simp only [maxLen] at hocm; omega
  clear hck ho hown hro hol hlaw hocm
  go_wp2_with fail
  go_loopw [39] (fun iv wr => ∃ i : Nat, i ≤ n ∧ iv = .int .i64 i ∧ Below w2.heap.size w2 wr) (fun iv _ => n - (intOf iv).toNat)
  case atStart => exact ⟨0, by omega, rfl, Below.refl _ _⟩
  case round =>
    obtain ⟨i, hi, rfl, hb⟩ := hrel
    have HB := Lib.hid hb
    clear hb
    by_cases hlt : i < n
    rotate_left
    · go_wp2_with fail
      go_ret
      exact ⟨rfl, HB2.out.trans (HB.out.mono HB2.out.size)⟩
    obtain ⟨k, hk⟩ : ∃ k, o[i]? = some k := ⟨_, List.getElem?_eq_getElem (by have := HOL.out; omega)⟩
    obtain ⟨hkn, hknot, hneed⟩ := HLAW.out i k hk
    rw [HPL.out] at hkn
    have hrd := HO2.out.up HB.out
    obtain ⟨ob, oo, hOA, hob, _⟩ := hrd.2 (by omega)
    subst hOA
    have d0 := hrd.at_ (natJ_get hk)
    have HRT := Lib.hid (rdI_take hrd (show i ≤ n by omega))
    have hltI : (i : Int) < (n : Int) := by omega
    have hioc : i ≤ oc := by omega
    have hkI : ¬ (k : Int) < 0 := by omega
    have hknI : ¬ (k : Int) ≥ (n : Int) := by omega
    have hany : ((natJ o).take i).any (· == (k : Int)) = false := by rw [natJ_take, natJ_has]; exact decide_eq_false hknot
    have HANY := Lib.hid hany
    have HNEED := Lib.hid hneed
    have HRR := Lib.hid (HR2.out.up HB.out)
    clear hk hknot hneed hrd hany
    go_wp2_with fail
    refine (hasInt_any (some ⟨ob, oo, none⟩) i oc ((natJ o).take i) (k : Int) wr HRT.out (by omega)).mono ?_
    rintro e w3 ⟨rfl, rfl⟩
    rw [HANY.out]
    obtain ⟨z, hz⟩ : ∃ z, hs[k]? = some z := ⟨_, List.getElem?_eq_getElem (by have := HRR.out.len; omega)⟩
    obtain ⟨b, off, hA, hbl⟩ := HRR.out.form (by omega)
    subst hA
    obtain ⟨p0, p1⟩ := HRR.out.at_ hz
    obtain ⟨z1, z2⟩ := HRR.out.zs z (List.mem_of_getElem? hz)
    have hzr : (rls hs)[k]? = some z.r := by unfold rls; rw [List.getElem?_map, hz]; rfl
    have HND : Hid ((∀ x ∈ z.r.expr, x.op ≠ 6) → ∀ x ∈ z.r.expr, x.op = 0 → ∀ (j : Nat) (r' : Rl), (rls hs)[j]? = some r' → r'.name = x.name → j ∈ o.take i) := Lib.hid (HNEED.out z.r hzr)
    have HZ1 := Lib.hid z1
    have HZK := Lib.hid hz
    have hkltI : (k : Int) < (n : Int) := by omega
    generalize hxr : z.r.expr = ex at *
    clear hxr hz hzr z1 HNEED
    go_wp2_with fail
    generalize wr = wa at *
    generalize hzn : z.n = m at *
    go_loopw [7, 65] (fun dv jv wr => ∃ (j : Nat) (d : Bool), j ≤ m ∧ jv = .int .i64 j ∧ dv = .bool d ∧ Below wa.heap.size wa wr ∧ d = (ex.take j).any (fun x => decide (x.op = 6))) (fun _ jv _ => m - (intOf jv).toNat)
    case atStart => exact ⟨0, false, by omega, rfl, rfl, Below.refl _ _, rfl⟩
    case round =>
      obtain ⟨j, d, hj, rfl, rfl, hb, hd⟩ := hrel
      have HBJ := Lib.hid hb
      have HD := Lib.hid hd
      clear hb hd
      by_cases hjm : j < m
      · obtain ⟨x, hx⟩ : ∃ x, ex[j]? = some x := ⟨_, List.getElem?_eq_getElem (by have := HZ1.out.1; omega)⟩
        obtain ⟨xb, xo, hzA, hxb⟩ := HZ1.out.form (by omega)
        have h1 := HZ1.out.up HBJ.out
        rw [hzA] at h1
        obtain ⟨s0, s1, s2⟩ := h1.at_ hx
        rw [hzA]
        have hjmI : (j : Int) < (m : Int) := by omega
        have HTK : Hid ((ex.take (j + 1)).any (fun x => decide (x.op = 6)) = (d || decide (x.op = 6))) := Lib.hid (by
          rw [HD.out, List.take_add_one, hx, List.any_append]; simp)
        have hbn : Below wr.heap.size wr (wr.alloc (.cells #[.int .i64 x.op, .string x.name, .int .i64 x.value] 41)) := (Below.refl _ _).alloc (Nat.le_refl _) _
        have HBN := Lib.hid (HBJ.out.trans (hbn.mono HBJ.out.size))
        clear hx h1 hzA hbn
        cases d with
        | true =>
          go_wp2_with fail
          go_roundw
          case rel => exact ⟨j + 1, true, hjm, by go_num, rfl, HBN.out, by rw [HTK.out]; rfl⟩
          case measure => simp [intOf]; omega
        | false =>
          go_wp2_with fail
          go_roundw
          case rel => exact ⟨j + 1, _, hjm, by go_num, rfl, HBN.out, by rw [HTK.out]; by_cases h : x.op = 6 <;> simp [h]⟩
          case measure => simp [intOf]; omega
      · have HDD : Hid (d = ex.any (fun x => decide (x.op = 6))) := Lib.hid (by rw [HD.out, List.take_of_length_le (by have := HZ1.out.1; omega)])
        clear HD
        have HWJ := Lib.hid (HB.out.trans (HBJ.out.mono HB.out.size))
        have HRJ := Lib.hid (HRR.out.up HBJ.out)
        have hrj := HRJ.out
        obtain ⟨p2, p3⟩ := hrj.at_ (show hs[k]? = some z from HZK.out)
        have HZJ := Lib.hid (HZ1.out.up HBJ.out)
        have HOJ := Lib.hid (HRT.out.up HBJ.out)
        rw [hzn] at p3
        generalize wr = wb at *
        clear p0 p1 d0 hrj
        go_wp2_with fail
        go_loopw [82] (fun jv wr => ∃ q : Nat, q ≤ m ∧ jv = .int .i64 q ∧ Below wb.heap.size wb wr) (fun jv _ => m - (intOf jv).toNat)
        case atStart => exact ⟨0, by omega, rfl, Below.refl _ _⟩
        case round =>
          obtain ⟨q, hq, rfl, hbq⟩ := hrel
          have HBQ := Lib.hid hbq
          clear hbq
          by_cases hqm : q < m
          rotate_left
          · go_wp2_with fail
            go_roundw
            case rel => exact ⟨i + 1, hlt, by go_num, HWJ.out.trans (HBQ.out.mono HWJ.out.size)⟩
            case measure => simp [intOf]; omega
          obtain ⟨x, hx⟩ : ∃ x, ex[q]? = some x := ⟨_, List.getElem?_eq_getElem (by have := HZ1.out.1; omega)⟩
          obtain ⟨xb, xo, hzA, hxb⟩ := HZJ.out.form (by omega)
          have h1 := HZJ.out.up HBQ.out
          rw [hzA] at h1
          obtain ⟨s0, s1, s2⟩ := h1.at_ hx
          rw [hzA]
          have hqmI : (q : Int) < (m : Int) := by omega
          have HXM := Lib.hid (List.mem_of_getElem? hx)
          have hbn : Below wr.heap.size wr (wr.alloc (.cells #[.int .i64 x.op, .string x.name, .int .i64 x.value] 41)) := (Below.refl _ _).alloc (Nat.le_refl _) _
          have hkn : Blk (wr.alloc (.cells #[.int .i64 x.op, .string x.name, .int .i64 x.value] 41)) wr.heap.size 41 #[.int .i64 x.op, .string x.name, .int .i64 x.value] := Blk.new _ _ _
          have HBN := Lib.hid (HBQ.out.trans (hbn.mono HBQ.out.size))
          have HKN := Lib.hid hkn
          clear hx h1 hzA hbn hkn
          go_wp2_with fail
          obtain ⟨px, hpx⟩ : ∃ q, q = wr.heap.size := ⟨_, rfl⟩
          rw [← hpx] at HKN ⊢
          generalize (wr.alloc (.cells #[.int .i64 x.op, .string x.name, .int .i64 x.value] 41)) = wn at *
          clear s0 s1 s2 hpx
          generalize wr = wr0 at *
          go_loopw [88] (fun tv wr => ∃ t : Nat, t ≤ n ∧ tv = .int .i64 t ∧ Below wn.heap.size wn wr) (fun tv _ => n - (intOf tv).toNat)
          case atStart => exact ⟨0, by omega, rfl, Below.refl _ _⟩
          case round =>
            obtain ⟨t, ht, rfl, hbt⟩ := hrel
            have HBT := Lib.hid hbt
            clear hbt
            by_cases htn : t < n
            rotate_left
            · go_wp2_with fail
              go_roundw
              case rel => exact ⟨q + 1, hqm, by go_num, HBN.out.trans (HBT.out.mono HBN.out.size)⟩
              case measure => simp [intOf]; omega
            obtain ⟨y, hy⟩ : ∃ y, hs[t]? = some y := ⟨_, List.getElem?_eq_getElem (by have := HRJ.out.len; omega)⟩
            have HBM := Lib.hid (HBN.out.trans (HBT.out.mono HBN.out.size))
            obtain ⟨y0, y1⟩ := (HRJ.out.up HBM.out).at_ hy
            have hyr : (rls hs)[t]? = some y.r := by unfold rls; rw [List.getElem?_map, hy]; rfl
            have hbn : Below wr.heap.size wr (wr.alloc (.cells #[.string y.r.name, .slice y.A y.n y.c] 39)) := (Below.refl _ _).alloc (Nat.le_refl _) _
            have hkn : Blk (wr.alloc (.cells #[.string y.r.name, .slice y.A y.n y.c] 39)) wr.heap.size 39 #[.string y.r.name, .slice y.A y.n y.c] := Blk.new _ _ _
            have hkx := (HKN.out.below HBT.out HKN.out.lt).below hbn (HKN.out.below HBT.out HKN.out.lt).lt
            have htnI : (t : Int) < (n : Int) := by omega
            have HAY : Hid (d = false → x.op = 0 → y.r.name = x.name → ((natJ o).take i).any (· == (t : Int)) = true) := Lib.hid fun h0 h1 h2 => by
              rw [natJ_take, natJ_has]
              refine decide_eq_true (HND.out (fun u hu h6 => ?_) x HXM.out h1 t y.r hyr h2)
              have := HDD.out
              rw [h0] at this
              have h3 : ex.any (fun x => decide (x.op = 6)) = true := List.any_eq_true.2 ⟨u, hu, by simp [h6]⟩
              rw [h3] at this
              cases this
            have HBP := Lib.hid (HBT.out.trans (hbn.mono HBT.out.size))
            have HOP := Lib.hid ((HOJ.out.up HBM.out).up hbn)
            go_upto_region 25 with fail
            obtain ⟨py, hpy⟩ : ∃ q, q = wr.heap.size := ⟨_, rfl⟩
            rw [← hpy] at hkn ⊢
            generalize (wr.alloc (.cells #[.string y.r.name, .slice y.A y.n y.c] 39)) = wm at *
            have e0 := hkn.cell 0
            have el := hkn.lt
            have ef := hkn.frozen
            have f0 := hkx.cell 0
            have f1 := hkx.cell 1
            have fl := hkx.lt
            have ff := hkx.frozen
            generalize y.r.name = yn at *
            clear hy hyr hbn hkn hkx hpy y0 y1
            cases d with
            | true =>
              clear HAY
              go_wp2_with fail
              go_roundw
              case rel => exact ⟨t + 1, htn, by go_num, HBP.out⟩
              case measure => simp [intOf]; omega
            | false =>
              by_cases hx0 : x.op = 0
              · have hx0b : (x.op == 0) = true := by simpa using hx0
                have HX0 := Lib.hid hx0
                clear hx0
                cases hnm : sEq yn x.name with
                | false =>
                  clear HAY
                  go_wp2_with fail
                  go_roundw
                  case rel => exact ⟨t + 1, htn, by go_num, HBP.out⟩
                  case measure => simp [intOf]; omega
                | true =>
                  have HANT := Lib.hid (HAY.out rfl HX0.out (sEq_iff.1 hnm))
                  clear HAY
                  go_wp2_with fail
                  refine (hasInt_any (some ⟨ob, oo, none⟩) i oc ((natJ o).take i) (t : Int) wm HOP.out (by omega)).mono ?_
                  rintro e w9 ⟨rfl, rfl⟩
                  rw [HANT.out]
                  go_wp2_with fail
                  go_roundw
                  case rel => exact ⟨t + 1, htn, by go_num, HBP.out⟩
                  case measure => simp [intOf]; omega
              · have hx0b : (x.op == 0) = false := by simpa using hx0
                clear HAY hx0
                go_wp2_with fail
                go_roundw
                case rel => exact ⟨t + 1, htn, by go_num, HBP.out⟩
                case measure => simp [intOf]; omega
end Go.Proofs.YtaanoljfhnfjoaaGreatDoor
