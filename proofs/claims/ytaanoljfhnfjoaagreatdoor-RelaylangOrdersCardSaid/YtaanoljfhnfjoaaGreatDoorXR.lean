/- What the rows of relaylang list: a world that holds it; what it gives the walks. -/
import Derived.Test.YtaanoljfhnfjoaaGreatDoorRF4
import Derived.Test.YtaanoljfhnfjoaaGreatDoorRows
import Derived.Lib.LaidTab
import Derived.LaidLaws
import Derived.LaidHandle
import Derived.RowKitTokens
import Derived.Stop.Joined
import Derived.Stop.LaidErr
import Derived.Lay
import Derived.Handed
namespace Go.Proofs.YtaanoljfhnfjoaaGreatDoor
open Go.ChangeShapes Go.WideShapes Go.ChangeAt Go.RowKit
set_option linter.unusedVariables false

theorem laid_tail {P : Program} {W : World} {x : String × DataW Unit} {rest : List (String × DataW Unit)} (h : laidMet P (x :: rest) W) : laidMet P rest W := by
  obtain ⟨ps, ⟨g, t, cs, fuel, p, q, _, _, _, _, hr, hps⟩, hn, hz⟩ := h
  subst hps
  exact ⟨q, hr, (List.nodup_append.1 hn).2.1, fun b off hp => hz b off (List.mem_append_right _ hp)⟩
theorem tab_of {W : World} {x y : String × DataW Unit} {rest : List (String × DataW Unit)} (h : laidMet Tryz.prog (x :: y :: ("internal/strconv.uint64pow10", Lib.tabData .u64 Lib.pow10Tab) :: rest) W) : TabOk W :=
  Lib.tabIs_of_head (t := 127) (n := 20) (show Tryz.prog.globalNamed "internal/strconv.uint64pow10" = some 1 by kernel_rfl) (by kernel_rfl) (by kernel_rfl) Tryz.underlying104 (by kernel_rfl) (by kernel_rfl) (laid_tail (laid_tail h))
variable {H : Type} {enc : TypeId × Value → H}

theorem returns_and_shaped {a : Assume} {C : Checked} {os : Os} {f : FuncId} {fn : Func} {s : ChangeSpec} {conds : List PathCond} {apart fresh handsOn again : Bool} {X : World → Array Value → Prop}
    (hX : ∀ (w w' : World) (args : Array Value), w.heap = w'.heap → X w args → X w' args)
    (own : ownKnob C.prog.godebug = none) (started : os.Started) (noInit : C.prog.inits.idxOf? f = none) (hfn : C.prog.funcs[f]? = some fn)
    (witness : ∃ (w : World) (tape : Tape) (i : Input), w.os = os ∧ (w.forCall tape i).Shaped C.prog ∧ i.vars = [] ∧ Input.okWide C.prog (w.forCall tape i) .any w.heap.size f i ∧
      ((s.pre enc C.prog fn conds apart (w.forCall tape i).memory i.args ∧ X (w.forCall tape i).memory i.args) ∧ sizedMet enc C.prog fn (OpenSpec.ofChange s) apart (w.forCall tape i).memory i.args) ∧ a.holds C.prog (lone (Frame.enter C.prog f i.args .normal) [] (w.forCall tape i)))
    (contract : ∀ (W : World) (base : Nat) (args : Array Value) (ds gs : List (DataW H)) (before : List MemPlace),
      (∀ (j : Nat) t v, fn.params[j]? = some t → args[j]? = some v → Value.okWide C.prog W .any base t v) →
      DataW.Whole enc C.prog fn.params.toList s.vars apart W args.toList ds gs before →
      X W args → W.ShapedOpen C.prog →
      Calls C.prog f args W fun e W' => ∃ v, e = .returned v ∧ s.post enc C.prog fn apart fresh handsOn again W args v W') :
    ReturnsInHanded a C os f .any (fun w args => (s.pre enc C.prog fn conds apart w args ∧ X w args) ∧ sizedMet enc C.prog fn (OpenSpec.ofChange s) apart w args) (s.post enc C.prog fn apart fresh handsOn again) := by
  refine returnsInHanded_of_calls own started noInit witness ?_
  intro w tape i _ hsh _ hok hpre hholds
  obtain ⟨_, _, _, fn', hfn', _, _, _, _, hval⟩ := hok
  have e : fn' = fn := Option.some.inj (hfn'.symm.trans hfn)
  subst e
  obtain ⟨⟨⟨ds, gs, before, hw, hc⟩, hx⟩, hz⟩ := hpre
  have hw' := DataW.Whole.of_heap (w' := w.forCall tape i) (by rfl) hw
  refine (contract (w.forCall tape i) w.heap.size i.args ds gs before hval hw' (hX _ _ _ (by rfl) hx) hsh).mono fun e W' ⟨v, he, hp⟩ => ?_
  subst he
  exact ChangeSpec.post_blind hp

noncomputable def laidWorld7 (os : Os) : World := World.laidAll Tryz.prog os Rows.relaylangPrintsRow.laid
theorem laidWorld7_met0 (os : Os) (args : Array Value) : laidMet Tryz.prog Rows.relaylangPrintsRow.laid ((laidWorld7 os).forCall (fun _ _ => 0) ⟨#[], args, []⟩).memory :=
  laidMet_laidAll args (by kernel_rfl) (by kernel_rfl)
theorem laidWorld7_met (os : Os) (args : Array Value) : laidMetH Tryz.prog Rows.relaylangPrintsRow.laid ((laidWorld7 os).forCall (fun _ _ => 0) ⟨#[], args, []⟩).memory :=
  laidWorld7_met0 os args
theorem star : "*" ++ "errors.errorString" = "*errors.errorString" := by decide
theorem rowES (u : TypeId) (h : Tryz.prog.typeName? 3 u = some "*errors.errorString") : u = 155 :=
  typeName_ptr_named (nm := "errors.errorString") (by rw [star]; kernel_rfl) (by kernel_rfl) (by decide) u (by rw [star]; exact h)
theorem env_ok {W : World} (h : laidMetH Tryz.prog Rows.relaylangPrintsRow.laid W) (hs : W.ShapedOpen Tryz.prog) : EnvJ W := by
  have h0 : laidMet Tryz.prog Rows.relaylangPrintsRow.laid W := h
  have hER := laid_tail (laid_tail (laid_tail (laid_tail h0)))
  have hES := laid_tail hER
  obtain ⟨a0, s0, hv0, _, _, _⟩ := laid_sentinel hER (show Tryz.prog.globalNamed "strconv.ErrRange" = some 7 by kernel_rfl) (by kernel_rfl) Tryz.underlying123 rowES Tryz.underlying155 Tryz.underlying157 rfl rfl Tryz.underlying9 (by kernel_rfl) (by kernel_rfl)
  obtain ⟨a1, s1, hv1, _, _, _⟩ := laid_sentinel hES (show Tryz.prog.globalNamed "strconv.ErrSyntax" = some 6 by kernel_rfl) (by kernel_rfl) Tryz.underlying123 rowES Tryz.underlying155 Tryz.underlying157 rfl rfl Tryz.underlying9 (by kernel_rfl) (by kernel_rfl)
  refine ⟨tab_of h0, Tryz.laysM138.s1_3 W hs, ⟨_, by have h1 := World.var?_cell (show Tryz.prog.globalNamed "strconv.ErrSyntax" = some 6 by kernel_rfl) hv1 0; simpa using h1, .inr ⟨_, _, rfl⟩⟩, ⟨_, by have h1 := World.var?_cell (show Tryz.prog.globalNamed "strconv.ErrRange" = some 7 by kernel_rfl) hv0 0; simpa using h1, .inr ⟨_, _, rfl⟩⟩⟩
end Go.Proofs.YtaanoljfhnfjoaaGreatDoor
