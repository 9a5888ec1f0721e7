/-
  No cell of these rows narrows 'for every input' (looked for: loops, veiled, ifaces, maps, wideKeys, modest, calm, conditions, laid).
  DERIVED. THE GIVEN ROWS OF THIS SEAT. 4 by the template 'for every input the law returns true; each argument reads behind the call as it read before'; 0 by the template 'total and deterministic' (their statements: YtodnjjlhklbniaaTotals.lean).
  GIVEN WITH THE SEED: the statements are not yours to turn. If you find one false, say at which input.
  Laid BY PROGRAM, IN A SANDBOX (cutbox-rows.mjs): the forced cells as the released guide's own fill.sh prints them over the translation b7afd706dfb8ad4f… (all of the seat's roots in one cut). By AI agents, Wed Nov 11 2026. No macro, syntax, notation, axiom, sorry.
-/
import Derived.Test.YtodnjjlhklbniaaChecked
import GoSem.Claim
import GoSem.ClaimJoined
import GoSem.ClaimMapViews
import Derived.JoinedTies
import Derived.KernelRfl
namespace Go.Proofs.Ytodnjjlhklbniaa
/- THE CELL 'sum', in the pinned program and in every row, IS THE sha256 OF THE DUMP (.gsa) THAT YtodnjjlhklbniaaProg.lean LOADS. Nothing in Lean hashes anything: it is a label: what it is worth is what the hold of that sum in a sandbox is worth. -/
noncomputable def Try.pinned : Pinned := { name := "ytodnjjlhklbniaa", sum := "b7afd706dfb8ad4f9c5e1b66661f8d8971731fa17c04611b63717890037ce8b6", checked := Try.checked }
namespace Rows
def none {H : Type} : Left H := { results := [], args := [] }

/-- 'gridhallkeep2.RelayLatches': WHATEVER THE INPUT: true; the input reads as it did. -/
def relayLatchesSpec : ChangeSpec := { name := "relayLatches", fn := fun _ => fun
  | [d1, d2] => { results := [.lit (.bool true)], args := [d1, d2] }
  | _ => none }
def relayLatchesRow : OpenClaim := { program := "ytodnjjlhklbniaa", sum := "b7afd706dfb8ad4f9c5e1b66661f8d8971731fa17c04611b63717890037ce8b6", func := "gridhall/gridhallkeep2.RelayLatches", spec := "relayLatches", unfollowed := true, recurses := true, plainKeys := false, apart := false }
def RelayLatchesSaid : Prop := relayLatchesRow.holds Try.pinned (OpenSpec.ofChange relayLatchesSpec)

/-- ITS FALSE NEIGHBOUR: 'it returns false'. Refute it at one input. -/
def relayLatchesWrong : ChangeSpec := { name := "relayLatches", fn := fun _ => fun
  | [d1, d2] => { results := [.lit (.bool false)], args := [d1, d2] }
  | _ => none }
def RelayLatchesWrongFalsely : Prop := relayLatchesRow.holds Try.pinned (OpenSpec.ofChange relayLatchesWrong)

/-- 'gridhallkeep2.RelayBegins': WHATEVER THE INPUT: true; the input reads as it did. -/
def relayBeginsSpec : ChangeSpec := { name := "relayBegins", fn := fun _ => fun
  | [d1, d2, d3, d4] => { results := [.lit (.bool true)], args := [d1, d2, d3, d4] }
  | _ => none }
def relayBeginsRow : OpenClaim := { program := "ytodnjjlhklbniaa", sum := "b7afd706dfb8ad4f9c5e1b66661f8d8971731fa17c04611b63717890037ce8b6", func := "gridhall/gridhallkeep2.RelayBegins", spec := "relayBegins", unfollowed := true, recurses := true, plainKeys := false, apart := false }
def RelayBeginsSaid : Prop := relayBeginsRow.holds Try.pinned (OpenSpec.ofChange relayBeginsSpec)

/-- ITS FALSE NEIGHBOUR: 'it returns false'. Refute it at one input. -/
def relayBeginsWrong : ChangeSpec := { name := "relayBegins", fn := fun _ => fun
  | [d1, d2, d3, d4] => { results := [.lit (.bool false)], args := [d1, d2, d3, d4] }
  | _ => none }
def RelayBeginsWrongFalsely : Prop := relayBeginsRow.holds Try.pinned (OpenSpec.ofChange relayBeginsWrong)

/-- 'gridhallkeep2.RelayLogic': WHATEVER THE INPUT: true; the input reads as it did. -/
def relayLogicSpec : ChangeSpec := { name := "relayLogic", fn := fun _ => fun
  | [d1, d2, d3] => { results := [.lit (.bool true)], args := [d1, d2, d3] }
  | _ => none }
def relayLogicRow : OpenClaim := { program := "ytodnjjlhklbniaa", sum := "b7afd706dfb8ad4f9c5e1b66661f8d8971731fa17c04611b63717890037ce8b6", func := "gridhall/gridhallkeep2.RelayLogic", spec := "relayLogic", unfollowed := true, recurses := true, plainKeys := false, apart := false }
def RelayLogicSaid : Prop := relayLogicRow.holds Try.pinned (OpenSpec.ofChange relayLogicSpec)

/-- ITS FALSE NEIGHBOUR: 'it returns false'. Refute it at one input. -/
def relayLogicWrong : ChangeSpec := { name := "relayLogic", fn := fun _ => fun
  | [d1, d2, d3] => { results := [.lit (.bool false)], args := [d1, d2, d3] }
  | _ => none }
def RelayLogicWrongFalsely : Prop := relayLogicRow.holds Try.pinned (OpenSpec.ofChange relayLogicWrong)

/-- 'gridhallkeep2.RelayDelays': WHATEVER THE INPUT: true; the input reads as it did. -/
def relayDelaysSpec : ChangeSpec := { name := "relayDelays", fn := fun _ => fun
  | [d1, d2, d3] => { results := [.lit (.bool true)], args := [d1, d2, d3] }
  | _ => none }
def relayDelaysRow : OpenClaim := { program := "ytodnjjlhklbniaa", sum := "b7afd706dfb8ad4f9c5e1b66661f8d8971731fa17c04611b63717890037ce8b6", func := "gridhall/gridhallkeep2.RelayDelays", spec := "relayDelays", unfollowed := true, recurses := true, plainKeys := false, apart := false }
def RelayDelaysSaid : Prop := relayDelaysRow.holds Try.pinned (OpenSpec.ofChange relayDelaysSpec)

/-- ITS FALSE NEIGHBOUR: 'it returns false'. Refute it at one input. -/
def relayDelaysWrong : ChangeSpec := { name := "relayDelays", fn := fun _ => fun
  | [d1, d2, d3] => { results := [.lit (.bool false)], args := [d1, d2, d3] }
  | _ => none }
def RelayDelaysWrongFalsely : Prop := relayDelaysRow.holds Try.pinned (OpenSpec.ofChange relayDelaysWrong)

/- THE SECOND FORM. 'bulk': how many values and letters a reading holds, each counted each time it is reached (what is shared counts as often as it is met; a slice's spare places count too). A statement '..UptoSaid' is the law's where the arguments, and the package variables that the reading takes, are together of bulk at most 1048576: NARROWER than '..Said'. Prove '..Said' where nothing that the law and all that it calls make is longer than what came in: it says more and counts as full. Else prove '..UptoSaid'. A law counts once. -/
mutual
def uptoBulk {H : Type} : DataW H → Nat
  | .lit (.string bytes) => bytes.length + 1
  | .lit _ => 1
  | .nil => 1
  | .ptr d => uptoBulk d + 1
  | .slice elems spare => uptoBulkAll elems + uptoBulkAll spare + 1
  | .agg parts => uptoBulkAll parts + 1
  | .iface _ d => uptoBulk d + 1
  | .map entries => uptoBulkEntries entries + 1
  | .held _ => 1
def uptoBulkAll {H : Type} : List (DataW H) → Nat
  | [] => 0
  | d :: r => uptoBulk d + uptoBulkAll r
def uptoBulkEntries {H : Type} : List (Lit × DataW H) → Nat
  | [] => 0
  | x :: r => uptoBulkEntry x + uptoBulkEntries r
def uptoBulkEntry {H : Type} : Lit × DataW H → Nat
  | (.string bytes, d) => bytes.length + uptoBulk d + 1
  | (_, d) => uptoBulk d + 1
 end
def uptoSmall : (H : Type) → List (DataW H) → Bool := fun _ ds => decide (uptoBulkAll ds ≤ 1048576)
def OpenSpec.upto (s : _root_.Go.ChangeSpec) : _root_.Go.OpenSpec := { _root_.Go.OpenSpec.ofChange s with cond := some uptoSmall }

/-- 'gridhallkeep2.RelayLatches', WHERE WHAT IT READS IS OF BULK AT MOST 1048576: true; the input reads as it did. -/
def relayLatchesUptoRow : OpenClaim := { program := "ytodnjjlhklbniaa", sum := "b7afd706dfb8ad4f9c5e1b66661f8d8971731fa17c04611b63717890037ce8b6", func := "gridhall/gridhallkeep2.RelayLatches", spec := "relayLatches", unfollowed := true, recurses := true, plainKeys := false, apart := false, narrowed := true }
def RelayLatchesUptoSaid : Prop := relayLatchesUptoRow.holds Try.pinned (OpenSpec.upto relayLatchesSpec)

/-- 'gridhallkeep2.RelayBegins', WHERE WHAT IT READS IS OF BULK AT MOST 1048576: true; the input reads as it did. -/
def relayBeginsUptoRow : OpenClaim := { program := "ytodnjjlhklbniaa", sum := "b7afd706dfb8ad4f9c5e1b66661f8d8971731fa17c04611b63717890037ce8b6", func := "gridhall/gridhallkeep2.RelayBegins", spec := "relayBegins", unfollowed := true, recurses := true, plainKeys := false, apart := false, narrowed := true }
def RelayBeginsUptoSaid : Prop := relayBeginsUptoRow.holds Try.pinned (OpenSpec.upto relayBeginsSpec)

/-- 'gridhallkeep2.RelayLogic', WHERE WHAT IT READS IS OF BULK AT MOST 1048576: true; the input reads as it did. -/
def relayLogicUptoRow : OpenClaim := { program := "ytodnjjlhklbniaa", sum := "b7afd706dfb8ad4f9c5e1b66661f8d8971731fa17c04611b63717890037ce8b6", func := "gridhall/gridhallkeep2.RelayLogic", spec := "relayLogic", unfollowed := true, recurses := true, plainKeys := false, apart := false, narrowed := true }
def RelayLogicUptoSaid : Prop := relayLogicUptoRow.holds Try.pinned (OpenSpec.upto relayLogicSpec)

/-- 'gridhallkeep2.RelayDelays', WHERE WHAT IT READS IS OF BULK AT MOST 1048576: true; the input reads as it did. -/
def relayDelaysUptoRow : OpenClaim := { program := "ytodnjjlhklbniaa", sum := "b7afd706dfb8ad4f9c5e1b66661f8d8971731fa17c04611b63717890037ce8b6", func := "gridhall/gridhallkeep2.RelayDelays", spec := "relayDelays", unfollowed := true, recurses := true, plainKeys := false, apart := false, narrowed := true }
def RelayDelaysUptoSaid : Prop := relayDelaysUptoRow.holds Try.pinned (OpenSpec.upto relayDelaysSpec)

end Rows
end Go.Proofs.Ytodnjjlhklbniaa
