/- The laws JournalTexts and JournalParses: the walks. -/
import Derived.Test.YtmmkkkakbbidjaaDoorJP
import Derived.Test.YtmmkkkakbbidjaaDoorJ10
namespace Go.Proofs.YtmmkkkakbbidjaaDoor
open Go.ChangeShapes Go.WideShapes Go.ChangeAt Go.RowKit
set_option linter.unusedVariables false
attribute [local go_sem ↓] execOp_call_val
attribute [local go_sem] callVal_func setCell_drewN alloc_drewN sEq_walk

theorem fit_of {x : Ev} (h : evCk x = 0) : x.Fit := by
  obtain ⟨_, _, hk, hn, _, _⟩ := evCk_ok h
  have h1 := nameB_size hk
  have h2 := nameB_size hn
  exact ⟨by simp only [maxLen]; omega, by simp only [maxLen]; omega⟩
set_option maxRecDepth 100000 in
set_option maxHeartbeats 4000000 in
theorem jparseslaw_any (s : ByteArray) (hs : s.size ≤ 9223372036854775807) (w : World) (he : EnvJ w) :
    Calls Tryd.prog 7 #[.string s] w fun e w' => e = .returned (.bool true) ∧ Below w.heap.size w w' := by
  have HE := Lib.hid he
  clear he
  go_enter Tryd.func7, Tryd.ntmps7
  go_wp2_with fail
  refine (jworks_any _ HE.out.tab).mono ?_
  rintro e w1 ⟨rfl, k1⟩
  have HB1 := Lib.hid k1
  have HE1 := Lib.hid (HE.out.up k1)
  clear k1
  go_wp2_with fail
  refine (parse_any s hs _ HE1.out).mono ?_
  rintro e w2 ⟨k2, h1⟩
  have HB2 := Lib.hid (HB1.out.trans (k2.mono HB1.out.size))
  have HE2 := Lib.hid (HE1.out.up k2)
  clear k2
  rcases h1 with ⟨l, v, hgood, rfl, hown⟩ | ⟨_, k, c, hk, hc, rfl⟩
  · obtain ⟨hp, hck⟩ := goodP_prt hgood
    obtain ⟨lA, lc, rfl, hrl⟩ := rdEv_own' hown
    have HRL := Lib.hid hrl
    have HCK := Lib.hid hck
    have HP := Lib.hid hp
    have hl := ckEv_len hck
    have HF : Hid (∀ x ∈ l, x.Fit) := Lib.hid fun x hx => fit_of (ckEv_all hck x hx)
    clear hown hrl hp hck hgood
    go_wp2_with fail
    refine (jprint_any lA l.length lc l HF.out _ HRL.out (by omega) HE2.out.tab).mono ?_
    rintro e w3 ⟨k3, h1⟩
    have HB3 := Lib.hid (HB2.out.trans (k3.mono HB2.out.size))
    clear k3
    rcases h1 with ⟨hne, _⟩ | ⟨_, rfl⟩
    · exact absurd HCK.out hne
    · rw [HP.out]
      have hss : sEq s s = true := sEq_iff.2 rfl
      go_wp2_with fail
      go_ret
      exact ⟨rfl, HB3.out⟩
  · have hcb : (c != 0) = true := by simpa using hc
    have hkd : decide (0 ≤ k) = true := by simpa using hk
    clear hc
    go_wp2_with fail
    go_ret
    exact ⟨rfl, HB2.out⟩
set_option maxRecDepth 100000 in
set_option maxHeartbeats 4000000 in
theorem jtextslaw_any (A : Option Addr) (n c : Nat) (l : List Ev) (hf : ∀ x ∈ l, x.Fit) (w : World) (hR : RdEv w w.heap.size A n l) (hn : n ≤ 9223372036854775807) (he : EnvJ w) :
    Calls Tryd.prog 6 #[.slice A n c] w fun e w' => e = .returned (.bool true) ∧ Below w.heap.size w w' := by
  have HE := Lib.hid he
  have HR := Lib.hid hR
  have HF := Lib.hid hf
  clear he hR hf
  go_enter Tryd.func6, Tryd.ntmps6
  go_wp2_with fail
  refine (jworks_any _ HE.out.tab).mono ?_
  rintro e w1 ⟨rfl, k1⟩
  have HB1 := Lib.hid k1
  have HE1 := Lib.hid (HE.out.up k1)
  have HR1 := Lib.hid (HR.out.up k1)
  clear k1
  go_wp2_with fail
  refine (jprint_any A n c l HF.out _ HR1.out hn HE1.out.tab).mono ?_
  rintro e w2 ⟨k2, h1⟩
  have HB2 := Lib.hid (HB1.out.trans (k2.mono HB1.out.size))
  have HE2 := Lib.hid (HE1.out.up k2)
  have HR2 := Lib.hid (HR1.out.up k2)
  clear k2
  rcases h1 with ⟨hne, rfl⟩ | ⟨hck, rfl⟩
  · have hCh := Lib.hid (jcheck_any A n c l HF.out w2 HR2.out hn)
    have hcb : (ckEv l != 0) = true := by simpa using hne
    clear hne
    generalize ckEv l = ec at *
    go_wp2_with fail
    refine hCh.out.mono ?_
    rintro e w3 ⟨rfl, k3⟩
    have HB3 := Lib.hid (HB2.out.trans (k3.mono HB2.out.size))
    clear k3
    go_wp2_with fail
    go_ret
    exact ⟨rfl, HB3.out⟩
  · have HCK := Lib.hid hck
    have HGD := Lib.hid (goodP_of hck)
    have hsz : (prtB l).size ≤ 9223372036854775807 := by have := HGD.out.1; omega
    clear hck
    go_wp2_with fail
    refine (parse_any (prtB l) hsz _ HE2.out).mono ?_
    rintro e w3 ⟨k3, h1⟩
    have HB3 := Lib.hid (HB2.out.trans (k3.mono HB2.out.size))
    have HR3 := Lib.hid (HR2.out.up k3)
    clear k3
    rcases h1 with ⟨m, v, hgood, rfl, hown⟩ | ⟨hno, _⟩
    · have hml : m = l := goodP_uniq hgood HGD.out
      subst hml
      obtain ⟨lA, lc, rfl, hrl⟩ := rdEv_own' hown
      have HRL := Lib.hid hrl
      have hss : sameGo m m = true := sameGo_iff.2 rfl
      have hl := ckEv_len HCK.out
      have HS := Lib.hid (sameEv_any A n c m lA m.length lc m w3 HR3.out HRL.out hn (by omega))
      rw [hss] at HS
      clear hown hrl hgood hss
      go_wp2_with fail
      refine HS.out.mono ?_
      rintro e w4 ⟨rfl, q, rfl⟩
      go_wp2_with fail
      go_ret
      exact ⟨rfl, below_drewN HB3.out _⟩
    · exact absurd HGD.out (hno l)
end Go.Proofs.YtmmkkkakbbidjaaDoor
