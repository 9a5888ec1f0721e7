/-
  NARROWER THAN 'FOR EVERY INPUT', by the rows' own cells (each row's printed sentence says how): TopEstimated: laid · TopPseudo: laid · MeterFlows: laid · EstimateWeights: laid · EstimateLeast: laid · SuspectClean: laid · EstimateExact: laid · EstimateGain: laid · SuspectNormal: laid · SuspectSpread: laid · SuspectOne: laid · TopBadMeter: laid.
  DERIVED. THE GIVEN ROWS OF THIS SEAT. 12 by the template 'for every input the law returns true; each argument reads behind the call as it read before'; 0 by the template 'total and deterministic' (their statements: YthgdchffeigkbaaGreatDoorTotals.lean).
  GIVEN WITH THE SEED: the statements are not yours to turn. If you find one false, say at which input.
  Laid BY PROGRAM, IN A SANDBOX (cutbox-rows.mjs): the forced cells as the released guide's own fill.sh prints them over the translation f0f9865c18fc91e4… (all of the seat's roots in one cut). By AI agents, Wed Nov 11 2026. No macro, syntax, notation, axiom, sorry.
-/
import Derived.Test.YthgdchffeigkbaaGreatDoorChecked
import GoSem.Claim
import GoSem.ClaimJoined
import GoSem.ClaimMapViews
import Derived.JoinedTies
import Derived.KernelRfl
namespace Go.Proofs.YthgdchffeigkbaaGreatDoor
/- THE CELL 'sum', in the pinned program and in every row, IS THE sha256 OF THE DUMP (.gsa) THAT YthgdchffeigkbaaGreatDoorProg.lean LOADS. Nothing in Lean hashes anything: it is a label: what it is worth is what the hold of that sum in a sandbox is worth. -/
noncomputable def Tryz.pinned : Pinned := { name := "ythgdchffeigkbaagreatdoor", sum := "f0f9865c18fc91e4e8f4f8d610ef26c5877c36cd71190b73588d9c5b19dc3b2b", checked := Tryz.checked }
namespace Rows
def none {H : Type} : Left H := { results := [], args := [] }

/- WHAT THE LISTED PACKAGE-LEVEL VARIABLES READ AS WHEN THE CALL BEGINS. Each datum BY PROGRAM (the guide's laid-datum.mjs) off the statement by which the dump's own 'gosem.cut.vars' lays the variable. In a bare row this is a premise. The card (YthgdchffeigkbaaGreatDoorCards.lean) ties it to the program's text. -/
def laid_math_bits_deBruijn32tab {H : Type} : DataW H := .agg [.lit (.int .u8 0), .lit (.int .u8 1), .lit (.int .u8 28), .lit (.int .u8 2), .lit (.int .u8 29), .lit (.int .u8 14), .lit (.int .u8 24), .lit (.int .u8 3), .lit (.int .u8 30), .lit (.int .u8 22), .lit (.int .u8 20), .lit (.int .u8 15), .lit (.int .u8 25), .lit (.int .u8 17), .lit (.int .u8 4), .lit (.int .u8 8), .lit (.int .u8 31), .lit (.int .u8 27), .lit (.int .u8 13), .lit (.int .u8 23), .lit (.int .u8 21), .lit (.int .u8 19), .lit (.int .u8 16), .lit (.int .u8 7), .lit (.int .u8 26), .lit (.int .u8 12), .lit (.int .u8 18), .lit (.int .u8 6), .lit (.int .u8 11), .lit (.int .u8 5), .lit (.int .u8 10), .lit (.int .u8 9)]
def laid_math_bits_deBruijn64tab {H : Type} : DataW H := .agg [.lit (.int .u8 0), .lit (.int .u8 1), .lit (.int .u8 56), .lit (.int .u8 2), .lit (.int .u8 57), .lit (.int .u8 49), .lit (.int .u8 28), .lit (.int .u8 3), .lit (.int .u8 61), .lit (.int .u8 58), .lit (.int .u8 42), .lit (.int .u8 50), .lit (.int .u8 38), .lit (.int .u8 29), .lit (.int .u8 17), .lit (.int .u8 4), .lit (.int .u8 62), .lit (.int .u8 47), .lit (.int .u8 59), .lit (.int .u8 36), .lit (.int .u8 45), .lit (.int .u8 43), .lit (.int .u8 51), .lit (.int .u8 22), .lit (.int .u8 53), .lit (.int .u8 39), .lit (.int .u8 33), .lit (.int .u8 30), .lit (.int .u8 24), .lit (.int .u8 18), .lit (.int .u8 12), .lit (.int .u8 5), .lit (.int .u8 63), .lit (.int .u8 55), .lit (.int .u8 48), .lit (.int .u8 27), .lit (.int .u8 60), .lit (.int .u8 41), .lit (.int .u8 37), .lit (.int .u8 16), .lit (.int .u8 46), .lit (.int .u8 35), .lit (.int .u8 44), .lit (.int .u8 21), .lit (.int .u8 52), .lit (.int .u8 32), .lit (.int .u8 23), .lit (.int .u8 11), .lit (.int .u8 54), .lit (.int .u8 26), .lit (.int .u8 40), .lit (.int .u8 15), .lit (.int .u8 34), .lit (.int .u8 20), .lit (.int .u8 31), .lit (.int .u8 10), .lit (.int .u8 25), .lit (.int .u8 14), .lit (.int .u8 19), .lit (.int .u8 9), .lit (.int .u8 13), .lit (.int .u8 8), .lit (.int .u8 7), .lit (.int .u8 6)]
def laid_internal_strconv_uint64pow10 {H : Type} : DataW H := .agg [.lit (.int .u64 1), .lit (.int .u64 10), .lit (.int .u64 100), .lit (.int .u64 1000), .lit (.int .u64 10000), .lit (.int .u64 100000), .lit (.int .u64 1000000), .lit (.int .u64 10000000), .lit (.int .u64 100000000), .lit (.int .u64 1000000000), .lit (.int .u64 10000000000), .lit (.int .u64 100000000000), .lit (.int .u64 1000000000000), .lit (.int .u64 10000000000000), .lit (.int .u64 100000000000000), .lit (.int .u64 1000000000000000), .lit (.int .u64 10000000000000000), .lit (.int .u64 100000000000000000), .lit (.int .u64 1000000000000000000), .lit (.int .u64 10000000000000000000)]
def laid_strconv_ErrRange {H : Type} : DataW H := .iface "*errors.errorString" (.ptr (.agg [.lit (.string [118, 97, 108, 117, 101, 32, 111, 117, 116, 32, 111, 102, 32, 114, 97, 110, 103, 101])]))
def laid_strconv_ErrSyntax {H : Type} : DataW H := .iface "*errors.errorString" (.ptr (.agg [.lit (.string [105, 110, 118, 97, 108, 105, 100, 32, 115, 121, 110, 116, 97, 120])]))

/-- 'gridhalltop.TopEstimated': WHATEVER THE INPUT: true; the input reads as it did. -/
def topEstimatedSpec : ChangeSpec := { name := "topEstimated", fn := fun _ => fun
  | [d1, d2, d3] => { results := [.lit (.bool true)], args := [d1, d2, d3] }
  | _ => none }
def topEstimatedRow : OpenClaim := { program := "ythgdchffeigkbaagreatdoor", sum := "f0f9865c18fc91e4e8f4f8d610ef26c5877c36cd71190b73588d9c5b19dc3b2b", func := "gridhall/gridhalltop.TopEstimated", spec := "topEstimated", inPlace := ["internal/bytealg.IndexByteString", "internal/bytealg.IndexString", "internal/abi.NoEscape"], unfollowed := true, recurses := true, named := ["internal/strconv.uint64pow10", "math/bits.deBruijn32tab", "math/bits.deBruijn64tab", "internal/bytealg.MaxLen", "strconv.ErrSyntax", "strconv.ErrRange"], apart := false, laid := [("math/bits.deBruijn32tab", laid_math_bits_deBruijn32tab), ("math/bits.deBruijn64tab", laid_math_bits_deBruijn64tab), ("internal/strconv.uint64pow10", laid_internal_strconv_uint64pow10), ("strconv.ErrRange", laid_strconv_ErrRange), ("strconv.ErrSyntax", laid_strconv_ErrSyntax)] }
def TopEstimatedSaid : Prop := topEstimatedRow.holds Tryz.pinned (OpenSpec.ofChange topEstimatedSpec)

/-- ITS FALSE NEIGHBOUR: 'it returns false'. Refute it at one input. -/
def topEstimatedWrong : ChangeSpec := { name := "topEstimated", fn := fun _ => fun
  | [d1, d2, d3] => { results := [.lit (.bool false)], args := [d1, d2, d3] }
  | _ => none }
def TopEstimatedWrongFalsely : Prop := topEstimatedRow.holds Tryz.pinned (OpenSpec.ofChange topEstimatedWrong)

/-- 'gridhalltop.TopPseudo': WHATEVER THE INPUT: true; the input reads as it did. -/
def topPseudoSpec : ChangeSpec := { name := "topPseudo", fn := fun _ => fun
  | [d1, d2, d3, d4] => { results := [.lit (.bool true)], args := [d1, d2, d3, d4] }
  | _ => none }
def topPseudoRow : OpenClaim := { program := "ythgdchffeigkbaagreatdoor", sum := "f0f9865c18fc91e4e8f4f8d610ef26c5877c36cd71190b73588d9c5b19dc3b2b", func := "gridhall/gridhalltop.TopPseudo", spec := "topPseudo", inPlace := ["internal/bytealg.IndexByteString", "internal/bytealg.IndexString", "internal/abi.NoEscape"], unfollowed := true, recurses := true, named := ["internal/strconv.uint64pow10", "math/bits.deBruijn32tab", "math/bits.deBruijn64tab", "internal/bytealg.MaxLen", "strconv.ErrSyntax", "strconv.ErrRange"], apart := false, laid := [("math/bits.deBruijn32tab", laid_math_bits_deBruijn32tab), ("math/bits.deBruijn64tab", laid_math_bits_deBruijn64tab), ("internal/strconv.uint64pow10", laid_internal_strconv_uint64pow10), ("strconv.ErrRange", laid_strconv_ErrRange), ("strconv.ErrSyntax", laid_strconv_ErrSyntax)] }
def TopPseudoSaid : Prop := topPseudoRow.holds Tryz.pinned (OpenSpec.ofChange topPseudoSpec)

/-- ITS FALSE NEIGHBOUR: 'it returns false'. Refute it at one input. -/
def topPseudoWrong : ChangeSpec := { name := "topPseudo", fn := fun _ => fun
  | [d1, d2, d3, d4] => { results := [.lit (.bool false)], args := [d1, d2, d3, d4] }
  | _ => none }
def TopPseudoWrongFalsely : Prop := topPseudoRow.holds Tryz.pinned (OpenSpec.ofChange topPseudoWrong)

/-- 'gridhallkeep2.MeterFlows': WHATEVER THE INPUT: true; the input reads as it did. -/
def meterFlowsSpec : ChangeSpec := { name := "meterFlows", fn := fun _ => fun
  | [d1, d2] => { results := [.lit (.bool true)], args := [d1, d2] }
  | _ => none }
def meterFlowsRow : OpenClaim := { program := "ythgdchffeigkbaagreatdoor", sum := "f0f9865c18fc91e4e8f4f8d610ef26c5877c36cd71190b73588d9c5b19dc3b2b", func := "gridhall/gridhallkeep2.MeterFlows", spec := "meterFlows", inPlace := ["internal/bytealg.IndexByteString", "internal/bytealg.IndexString", "internal/abi.NoEscape"], unfollowed := true, recurses := true, named := ["internal/bytealg.MaxLen", "strconv.ErrSyntax", "strconv.ErrRange", "internal/strconv.uint64pow10", "math/bits.deBruijn32tab", "math/bits.deBruijn64tab"], apart := false, laid := [("math/bits.deBruijn32tab", laid_math_bits_deBruijn32tab), ("math/bits.deBruijn64tab", laid_math_bits_deBruijn64tab), ("internal/strconv.uint64pow10", laid_internal_strconv_uint64pow10), ("strconv.ErrRange", laid_strconv_ErrRange), ("strconv.ErrSyntax", laid_strconv_ErrSyntax)] }
def MeterFlowsSaid : Prop := meterFlowsRow.holds Tryz.pinned (OpenSpec.ofChange meterFlowsSpec)

/-- ITS FALSE NEIGHBOUR: 'it returns false'. Refute it at one input. -/
def meterFlowsWrong : ChangeSpec := { name := "meterFlows", fn := fun _ => fun
  | [d1, d2] => { results := [.lit (.bool false)], args := [d1, d2] }
  | _ => none }
def MeterFlowsWrongFalsely : Prop := meterFlowsRow.holds Tryz.pinned (OpenSpec.ofChange meterFlowsWrong)

/-- 'gridhallkeep2.EstimateWeights': WHATEVER THE INPUT: true; the input reads as it did. -/
def estimateWeightsSpec : ChangeSpec := { name := "estimateWeights", fn := fun _ => fun
  | [d1, d2, d3] => { results := [.lit (.bool true)], args := [d1, d2, d3] }
  | _ => none }
def estimateWeightsRow : OpenClaim := { program := "ythgdchffeigkbaagreatdoor", sum := "f0f9865c18fc91e4e8f4f8d610ef26c5877c36cd71190b73588d9c5b19dc3b2b", func := "gridhall/gridhallkeep2.EstimateWeights", spec := "estimateWeights", inPlace := ["internal/bytealg.IndexByteString", "internal/bytealg.IndexString", "internal/abi.NoEscape"], unfollowed := true, recurses := true, named := ["internal/bytealg.MaxLen", "strconv.ErrSyntax", "strconv.ErrRange", "internal/strconv.uint64pow10", "math/bits.deBruijn32tab", "math/bits.deBruijn64tab"], apart := false, laid := [("math/bits.deBruijn32tab", laid_math_bits_deBruijn32tab), ("math/bits.deBruijn64tab", laid_math_bits_deBruijn64tab), ("internal/strconv.uint64pow10", laid_internal_strconv_uint64pow10), ("strconv.ErrRange", laid_strconv_ErrRange), ("strconv.ErrSyntax", laid_strconv_ErrSyntax)] }
def EstimateWeightsSaid : Prop := estimateWeightsRow.holds Tryz.pinned (OpenSpec.ofChange estimateWeightsSpec)

/-- ITS FALSE NEIGHBOUR: 'it returns false'. Refute it at one input. -/
def estimateWeightsWrong : ChangeSpec := { name := "estimateWeights", fn := fun _ => fun
  | [d1, d2, d3] => { results := [.lit (.bool false)], args := [d1, d2, d3] }
  | _ => none }
def EstimateWeightsWrongFalsely : Prop := estimateWeightsRow.holds Tryz.pinned (OpenSpec.ofChange estimateWeightsWrong)

/-- 'gridhallkeep2.EstimateLeast': WHATEVER THE INPUT: true; the input reads as it did. -/
def estimateLeastSpec : ChangeSpec := { name := "estimateLeast", fn := fun _ => fun
  | [d1, d2, d3] => { results := [.lit (.bool true)], args := [d1, d2, d3] }
  | _ => none }
def estimateLeastRow : OpenClaim := { program := "ythgdchffeigkbaagreatdoor", sum := "f0f9865c18fc91e4e8f4f8d610ef26c5877c36cd71190b73588d9c5b19dc3b2b", func := "gridhall/gridhallkeep2.EstimateLeast", spec := "estimateLeast", inPlace := ["internal/bytealg.IndexByteString", "internal/bytealg.IndexString", "internal/abi.NoEscape"], unfollowed := true, recurses := true, named := ["internal/bytealg.MaxLen", "strconv.ErrSyntax", "strconv.ErrRange", "internal/strconv.uint64pow10", "math/bits.deBruijn32tab", "math/bits.deBruijn64tab"], apart := false, laid := [("math/bits.deBruijn32tab", laid_math_bits_deBruijn32tab), ("math/bits.deBruijn64tab", laid_math_bits_deBruijn64tab), ("internal/strconv.uint64pow10", laid_internal_strconv_uint64pow10), ("strconv.ErrRange", laid_strconv_ErrRange), ("strconv.ErrSyntax", laid_strconv_ErrSyntax)] }
def EstimateLeastSaid : Prop := estimateLeastRow.holds Tryz.pinned (OpenSpec.ofChange estimateLeastSpec)

/-- ITS FALSE NEIGHBOUR: 'it returns false'. Refute it at one input. -/
def estimateLeastWrong : ChangeSpec := { name := "estimateLeast", fn := fun _ => fun
  | [d1, d2, d3] => { results := [.lit (.bool false)], args := [d1, d2, d3] }
  | _ => none }
def EstimateLeastWrongFalsely : Prop := estimateLeastRow.holds Tryz.pinned (OpenSpec.ofChange estimateLeastWrong)

/-- 'gridhallkeep2.SuspectClean': WHATEVER THE INPUT: true; the input reads as it did. -/
def suspectCleanSpec : ChangeSpec := { name := "suspectClean", fn := fun _ => fun
  | [d1, d2] => { results := [.lit (.bool true)], args := [d1, d2] }
  | _ => none }
def suspectCleanRow : OpenClaim := { program := "ythgdchffeigkbaagreatdoor", sum := "f0f9865c18fc91e4e8f4f8d610ef26c5877c36cd71190b73588d9c5b19dc3b2b", func := "gridhall/gridhallkeep2.SuspectClean", spec := "suspectClean", inPlace := ["internal/bytealg.IndexByteString", "internal/bytealg.IndexString", "internal/abi.NoEscape"], unfollowed := true, recurses := true, named := ["internal/bytealg.MaxLen", "strconv.ErrSyntax", "strconv.ErrRange", "internal/strconv.uint64pow10", "math/bits.deBruijn32tab", "math/bits.deBruijn64tab"], apart := false, laid := [("math/bits.deBruijn32tab", laid_math_bits_deBruijn32tab), ("math/bits.deBruijn64tab", laid_math_bits_deBruijn64tab), ("internal/strconv.uint64pow10", laid_internal_strconv_uint64pow10), ("strconv.ErrRange", laid_strconv_ErrRange), ("strconv.ErrSyntax", laid_strconv_ErrSyntax)] }
def SuspectCleanSaid : Prop := suspectCleanRow.holds Tryz.pinned (OpenSpec.ofChange suspectCleanSpec)

/-- ITS FALSE NEIGHBOUR: 'it returns false'. Refute it at one input. -/
def suspectCleanWrong : ChangeSpec := { name := "suspectClean", fn := fun _ => fun
  | [d1, d2] => { results := [.lit (.bool false)], args := [d1, d2] }
  | _ => none }
def SuspectCleanWrongFalsely : Prop := suspectCleanRow.holds Tryz.pinned (OpenSpec.ofChange suspectCleanWrong)

/-- 'gridhallkeep2.EstimateExact': WHATEVER THE INPUT: true; the input reads as it did. -/
def estimateExactSpec : ChangeSpec := { name := "estimateExact", fn := fun _ => fun
  | [d1, d2, d3] => { results := [.lit (.bool true)], args := [d1, d2, d3] }
  | _ => none }
def estimateExactRow : OpenClaim := { program := "ythgdchffeigkbaagreatdoor", sum := "f0f9865c18fc91e4e8f4f8d610ef26c5877c36cd71190b73588d9c5b19dc3b2b", func := "gridhall/gridhallkeep2.EstimateExact", spec := "estimateExact", inPlace := ["internal/bytealg.IndexByteString", "internal/bytealg.IndexString", "internal/abi.NoEscape"], unfollowed := true, recurses := true, named := ["internal/bytealg.MaxLen", "strconv.ErrSyntax", "strconv.ErrRange", "internal/strconv.uint64pow10", "math/bits.deBruijn32tab", "math/bits.deBruijn64tab"], apart := false, laid := [("math/bits.deBruijn32tab", laid_math_bits_deBruijn32tab), ("math/bits.deBruijn64tab", laid_math_bits_deBruijn64tab), ("internal/strconv.uint64pow10", laid_internal_strconv_uint64pow10), ("strconv.ErrRange", laid_strconv_ErrRange), ("strconv.ErrSyntax", laid_strconv_ErrSyntax)] }
def EstimateExactSaid : Prop := estimateExactRow.holds Tryz.pinned (OpenSpec.ofChange estimateExactSpec)

/-- ITS FALSE NEIGHBOUR: 'it returns false'. Refute it at one input. -/
def estimateExactWrong : ChangeSpec := { name := "estimateExact", fn := fun _ => fun
  | [d1, d2, d3] => { results := [.lit (.bool false)], args := [d1, d2, d3] }
  | _ => none }
def EstimateExactWrongFalsely : Prop := estimateExactRow.holds Tryz.pinned (OpenSpec.ofChange estimateExactWrong)

/-- 'gridhallkeep2.EstimateGain': WHATEVER THE INPUT: true; the input reads as it did. -/
def estimateGainSpec : ChangeSpec := { name := "estimateGain", fn := fun _ => fun
  | [d1, d2] => { results := [.lit (.bool true)], args := [d1, d2] }
  | _ => none }
def estimateGainRow : OpenClaim := { program := "ythgdchffeigkbaagreatdoor", sum := "f0f9865c18fc91e4e8f4f8d610ef26c5877c36cd71190b73588d9c5b19dc3b2b", func := "gridhall/gridhallkeep2.EstimateGain", spec := "estimateGain", inPlace := ["internal/bytealg.IndexByteString", "internal/bytealg.IndexString", "internal/abi.NoEscape"], unfollowed := true, recurses := true, named := ["internal/bytealg.MaxLen", "strconv.ErrSyntax", "strconv.ErrRange", "internal/strconv.uint64pow10", "math/bits.deBruijn32tab", "math/bits.deBruijn64tab"], apart := false, laid := [("math/bits.deBruijn32tab", laid_math_bits_deBruijn32tab), ("math/bits.deBruijn64tab", laid_math_bits_deBruijn64tab), ("internal/strconv.uint64pow10", laid_internal_strconv_uint64pow10), ("strconv.ErrRange", laid_strconv_ErrRange), ("strconv.ErrSyntax", laid_strconv_ErrSyntax)] }
def EstimateGainSaid : Prop := estimateGainRow.holds Tryz.pinned (OpenSpec.ofChange estimateGainSpec)

/-- ITS FALSE NEIGHBOUR: 'it returns false'. Refute it at one input. -/
def estimateGainWrong : ChangeSpec := { name := "estimateGain", fn := fun _ => fun
  | [d1, d2] => { results := [.lit (.bool false)], args := [d1, d2] }
  | _ => none }
def EstimateGainWrongFalsely : Prop := estimateGainRow.holds Tryz.pinned (OpenSpec.ofChange estimateGainWrong)

/-- 'gridhallkeep2.SuspectNormal': WHATEVER THE INPUT: true; the input reads as it did. -/
def suspectNormalSpec : ChangeSpec := { name := "suspectNormal", fn := fun _ => fun
  | [d1, d2] => { results := [.lit (.bool true)], args := [d1, d2] }
  | _ => none }
def suspectNormalRow : OpenClaim := { program := "ythgdchffeigkbaagreatdoor", sum := "f0f9865c18fc91e4e8f4f8d610ef26c5877c36cd71190b73588d9c5b19dc3b2b", func := "gridhall/gridhallkeep2.SuspectNormal", spec := "suspectNormal", inPlace := ["internal/bytealg.IndexByteString", "internal/bytealg.IndexString", "internal/abi.NoEscape"], unfollowed := true, recurses := true, named := ["internal/bytealg.MaxLen", "strconv.ErrSyntax", "strconv.ErrRange", "internal/strconv.uint64pow10", "math/bits.deBruijn32tab", "math/bits.deBruijn64tab"], apart := false, laid := [("math/bits.deBruijn32tab", laid_math_bits_deBruijn32tab), ("math/bits.deBruijn64tab", laid_math_bits_deBruijn64tab), ("internal/strconv.uint64pow10", laid_internal_strconv_uint64pow10), ("strconv.ErrRange", laid_strconv_ErrRange), ("strconv.ErrSyntax", laid_strconv_ErrSyntax)] }
def SuspectNormalSaid : Prop := suspectNormalRow.holds Tryz.pinned (OpenSpec.ofChange suspectNormalSpec)

/-- ITS FALSE NEIGHBOUR: 'it returns false'. Refute it at one input. -/
def suspectNormalWrong : ChangeSpec := { name := "suspectNormal", fn := fun _ => fun
  | [d1, d2] => { results := [.lit (.bool false)], args := [d1, d2] }
  | _ => none }
def SuspectNormalWrongFalsely : Prop := suspectNormalRow.holds Tryz.pinned (OpenSpec.ofChange suspectNormalWrong)

/-- 'gridhallkeep2.SuspectSpread': WHATEVER THE INPUT: true; the input reads as it did. -/
def suspectSpreadSpec : ChangeSpec := { name := "suspectSpread", fn := fun _ => fun
  | [d1, d2] => { results := [.lit (.bool true)], args := [d1, d2] }
  | _ => none }
def suspectSpreadRow : OpenClaim := { program := "ythgdchffeigkbaagreatdoor", sum := "f0f9865c18fc91e4e8f4f8d610ef26c5877c36cd71190b73588d9c5b19dc3b2b", func := "gridhall/gridhallkeep2.SuspectSpread", spec := "suspectSpread", inPlace := ["internal/bytealg.IndexByteString", "internal/bytealg.IndexString", "internal/abi.NoEscape"], unfollowed := true, recurses := true, named := ["internal/bytealg.MaxLen", "strconv.ErrSyntax", "strconv.ErrRange", "internal/strconv.uint64pow10", "math/bits.deBruijn32tab", "math/bits.deBruijn64tab"], apart := false, laid := [("math/bits.deBruijn32tab", laid_math_bits_deBruijn32tab), ("math/bits.deBruijn64tab", laid_math_bits_deBruijn64tab), ("internal/strconv.uint64pow10", laid_internal_strconv_uint64pow10), ("strconv.ErrRange", laid_strconv_ErrRange), ("strconv.ErrSyntax", laid_strconv_ErrSyntax)] }
def SuspectSpreadSaid : Prop := suspectSpreadRow.holds Tryz.pinned (OpenSpec.ofChange suspectSpreadSpec)

/-- ITS FALSE NEIGHBOUR: 'it returns false'. Refute it at one input. -/
def suspectSpreadWrong : ChangeSpec := { name := "suspectSpread", fn := fun _ => fun
  | [d1, d2] => { results := [.lit (.bool false)], args := [d1, d2] }
  | _ => none }
def SuspectSpreadWrongFalsely : Prop := suspectSpreadRow.holds Tryz.pinned (OpenSpec.ofChange suspectSpreadWrong)

/-- 'gridhallkeep2.SuspectOne': WHATEVER THE INPUT: true; the input reads as it did. -/
def suspectOneSpec : ChangeSpec := { name := "suspectOne", fn := fun _ => fun
  | [d1, d2, d3, d4, d5] => { results := [.lit (.bool true)], args := [d1, d2, d3, d4, d5] }
  | _ => none }
def suspectOneRow : OpenClaim := { program := "ythgdchffeigkbaagreatdoor", sum := "f0f9865c18fc91e4e8f4f8d610ef26c5877c36cd71190b73588d9c5b19dc3b2b", func := "gridhall/gridhallkeep2.SuspectOne", spec := "suspectOne", inPlace := ["internal/bytealg.IndexByteString", "internal/bytealg.IndexString", "internal/abi.NoEscape"], unfollowed := true, recurses := true, named := ["internal/bytealg.MaxLen", "strconv.ErrSyntax", "strconv.ErrRange", "internal/strconv.uint64pow10", "math/bits.deBruijn32tab", "math/bits.deBruijn64tab"], apart := false, laid := [("math/bits.deBruijn32tab", laid_math_bits_deBruijn32tab), ("math/bits.deBruijn64tab", laid_math_bits_deBruijn64tab), ("internal/strconv.uint64pow10", laid_internal_strconv_uint64pow10), ("strconv.ErrRange", laid_strconv_ErrRange), ("strconv.ErrSyntax", laid_strconv_ErrSyntax)] }
def SuspectOneSaid : Prop := suspectOneRow.holds Tryz.pinned (OpenSpec.ofChange suspectOneSpec)

/-- ITS FALSE NEIGHBOUR: 'it returns false'. Refute it at one input. -/
def suspectOneWrong : ChangeSpec := { name := "suspectOne", fn := fun _ => fun
  | [d1, d2, d3, d4, d5] => { results := [.lit (.bool false)], args := [d1, d2, d3, d4, d5] }
  | _ => none }
def SuspectOneWrongFalsely : Prop := suspectOneRow.holds Tryz.pinned (OpenSpec.ofChange suspectOneWrong)

/-- 'gridhalltop.TopBadMeter': WHATEVER THE INPUT: true; the input reads as it did. -/
def topBadMeterSpec : ChangeSpec := { name := "topBadMeter", fn := fun _ => fun
  | [d1, d2, d3, d4, d5] => { results := [.lit (.bool true)], args := [d1, d2, d3, d4, d5] }
  | _ => none }
def topBadMeterRow : OpenClaim := { program := "ythgdchffeigkbaagreatdoor", sum := "f0f9865c18fc91e4e8f4f8d610ef26c5877c36cd71190b73588d9c5b19dc3b2b", func := "gridhall/gridhalltop.TopBadMeter", spec := "topBadMeter", inPlace := ["internal/bytealg.IndexByteString", "internal/bytealg.IndexString", "internal/abi.NoEscape"], unfollowed := true, recurses := true, named := ["internal/strconv.uint64pow10", "math/bits.deBruijn32tab", "math/bits.deBruijn64tab", "internal/bytealg.MaxLen", "strconv.ErrSyntax", "strconv.ErrRange"], apart := false, laid := [("math/bits.deBruijn32tab", laid_math_bits_deBruijn32tab), ("math/bits.deBruijn64tab", laid_math_bits_deBruijn64tab), ("internal/strconv.uint64pow10", laid_internal_strconv_uint64pow10), ("strconv.ErrRange", laid_strconv_ErrRange), ("strconv.ErrSyntax", laid_strconv_ErrSyntax)] }
def TopBadMeterSaid : Prop := topBadMeterRow.holds Tryz.pinned (OpenSpec.ofChange topBadMeterSpec)

/-- ITS FALSE NEIGHBOUR: 'it returns false'. Refute it at one input. -/
def topBadMeterWrong : ChangeSpec := { name := "topBadMeter", fn := fun _ => fun
  | [d1, d2, d3, d4, d5] => { results := [.lit (.bool false)], args := [d1, d2, d3, d4, d5] }
  | _ => none }
def TopBadMeterWrongFalsely : Prop := topBadMeterRow.holds Tryz.pinned (OpenSpec.ofChange topBadMeterWrong)

/- THE SECOND FORM. 'bulk': how many values and letters a reading holds, each counted each time it is reached (what is shared counts as often as it is met; a slice's spare places count too). A statement '..UptoSaid' is the law's where the arguments, and the package variables that the reading takes, are together of bulk at most 1048576: NARROWER than '..Said'. Prove '..Said' where nothing that the law and all that it calls make is longer than what came in: it says more and counts as full. Else prove '..UptoSaid'. A law counts once. -/
mutual
def uptoBulk {H : Type} : DataW H → Nat
  | .lit (.string bytes) => bytes.length + 1
  | .lit _ => 1
  | .nil => 1
  | .ptr d => uptoBulk d + 1
  | .slice elems spare => uptoBulkAll elems + uptoBulkAll spare + 1
  | .agg parts => uptoBulkAll parts + 1
  | .iface _ d => uptoBulk d + 1
  | .map entries => uptoBulkEntries entries + 1
  | .held _ => 1
def uptoBulkAll {H : Type} : List (DataW H) → Nat
  | [] => 0
  | d :: r => uptoBulk d + uptoBulkAll r
def uptoBulkEntries {H : Type} : List (Lit × DataW H) → Nat
  | [] => 0
  | x :: r => uptoBulkEntry x + uptoBulkEntries r
def uptoBulkEntry {H : Type} : Lit × DataW H → Nat
  | (.string bytes, d) => bytes.length + uptoBulk d + 1
  | (_, d) => uptoBulk d + 1
 end
def uptoSmall : (H : Type) → List (DataW H) → Bool := fun _ ds => decide (uptoBulkAll ds ≤ 1048576)
def OpenSpec.upto (s : _root_.Go.ChangeSpec) : _root_.Go.OpenSpec := { _root_.Go.OpenSpec.ofChange s with cond := some uptoSmall }

/-- 'gridhalltop.TopEstimated', WHERE WHAT IT READS IS OF BULK AT MOST 1048576: true; the input reads as it did. -/
def topEstimatedUptoRow : OpenClaim := { program := "ythgdchffeigkbaagreatdoor", sum := "f0f9865c18fc91e4e8f4f8d610ef26c5877c36cd71190b73588d9c5b19dc3b2b", func := "gridhall/gridhalltop.TopEstimated", spec := "topEstimated", inPlace := ["internal/bytealg.IndexByteString", "internal/bytealg.IndexString", "internal/abi.NoEscape"], unfollowed := true, recurses := true, named := ["internal/strconv.uint64pow10", "math/bits.deBruijn32tab", "math/bits.deBruijn64tab", "internal/bytealg.MaxLen", "strconv.ErrSyntax", "strconv.ErrRange"], apart := false, laid := [("math/bits.deBruijn32tab", laid_math_bits_deBruijn32tab), ("math/bits.deBruijn64tab", laid_math_bits_deBruijn64tab), ("internal/strconv.uint64pow10", laid_internal_strconv_uint64pow10), ("strconv.ErrRange", laid_strconv_ErrRange), ("strconv.ErrSyntax", laid_strconv_ErrSyntax)], narrowed := true }
def TopEstimatedUptoSaid : Prop := topEstimatedUptoRow.holds Tryz.pinned (OpenSpec.upto topEstimatedSpec)

/-- 'gridhalltop.TopPseudo', WHERE WHAT IT READS IS OF BULK AT MOST 1048576: true; the input reads as it did. -/
def topPseudoUptoRow : OpenClaim := { program := "ythgdchffeigkbaagreatdoor", sum := "f0f9865c18fc91e4e8f4f8d610ef26c5877c36cd71190b73588d9c5b19dc3b2b", func := "gridhall/gridhalltop.TopPseudo", spec := "topPseudo", inPlace := ["internal/bytealg.IndexByteString", "internal/bytealg.IndexString", "internal/abi.NoEscape"], unfollowed := true, recurses := true, named := ["internal/strconv.uint64pow10", "math/bits.deBruijn32tab", "math/bits.deBruijn64tab", "internal/bytealg.MaxLen", "strconv.ErrSyntax", "strconv.ErrRange"], apart := false, laid := [("math/bits.deBruijn32tab", laid_math_bits_deBruijn32tab), ("math/bits.deBruijn64tab", laid_math_bits_deBruijn64tab), ("internal/strconv.uint64pow10", laid_internal_strconv_uint64pow10), ("strconv.ErrRange", laid_strconv_ErrRange), ("strconv.ErrSyntax", laid_strconv_ErrSyntax)], narrowed := true }
def TopPseudoUptoSaid : Prop := topPseudoUptoRow.holds Tryz.pinned (OpenSpec.upto topPseudoSpec)

/-- 'gridhallkeep2.MeterFlows', WHERE WHAT IT READS IS OF BULK AT MOST 1048576: true; the input reads as it did. -/
def meterFlowsUptoRow : OpenClaim := { program := "ythgdchffeigkbaagreatdoor", sum := "f0f9865c18fc91e4e8f4f8d610ef26c5877c36cd71190b73588d9c5b19dc3b2b", func := "gridhall/gridhallkeep2.MeterFlows", spec := "meterFlows", inPlace := ["internal/bytealg.IndexByteString", "internal/bytealg.IndexString", "internal/abi.NoEscape"], unfollowed := true, recurses := true, named := ["internal/bytealg.MaxLen", "strconv.ErrSyntax", "strconv.ErrRange", "internal/strconv.uint64pow10", "math/bits.deBruijn32tab", "math/bits.deBruijn64tab"], apart := false, laid := [("math/bits.deBruijn32tab", laid_math_bits_deBruijn32tab), ("math/bits.deBruijn64tab", laid_math_bits_deBruijn64tab), ("internal/strconv.uint64pow10", laid_internal_strconv_uint64pow10), ("strconv.ErrRange", laid_strconv_ErrRange), ("strconv.ErrSyntax", laid_strconv_ErrSyntax)], narrowed := true }
def MeterFlowsUptoSaid : Prop := meterFlowsUptoRow.holds Tryz.pinned (OpenSpec.upto meterFlowsSpec)

/-- 'gridhallkeep2.EstimateWeights', WHERE WHAT IT READS IS OF BULK AT MOST 1048576: true; the input reads as it did. -/
def estimateWeightsUptoRow : OpenClaim := { program := "ythgdchffeigkbaagreatdoor", sum := "f0f9865c18fc91e4e8f4f8d610ef26c5877c36cd71190b73588d9c5b19dc3b2b", func := "gridhall/gridhallkeep2.EstimateWeights", spec := "estimateWeights", inPlace := ["internal/bytealg.IndexByteString", "internal/bytealg.IndexString", "internal/abi.NoEscape"], unfollowed := true, recurses := true, named := ["internal/bytealg.MaxLen", "strconv.ErrSyntax", "strconv.ErrRange", "internal/strconv.uint64pow10", "math/bits.deBruijn32tab", "math/bits.deBruijn64tab"], apart := false, laid := [("math/bits.deBruijn32tab", laid_math_bits_deBruijn32tab), ("math/bits.deBruijn64tab", laid_math_bits_deBruijn64tab), ("internal/strconv.uint64pow10", laid_internal_strconv_uint64pow10), ("strconv.ErrRange", laid_strconv_ErrRange), ("strconv.ErrSyntax", laid_strconv_ErrSyntax)], narrowed := true }
def EstimateWeightsUptoSaid : Prop := estimateWeightsUptoRow.holds Tryz.pinned (OpenSpec.upto estimateWeightsSpec)

/-- 'gridhallkeep2.EstimateLeast', WHERE WHAT IT READS IS OF BULK AT MOST 1048576: true; the input reads as it did. -/
def estimateLeastUptoRow : OpenClaim := { program := "ythgdchffeigkbaagreatdoor", sum := "f0f9865c18fc91e4e8f4f8d610ef26c5877c36cd71190b73588d9c5b19dc3b2b", func := "gridhall/gridhallkeep2.EstimateLeast", spec := "estimateLeast", inPlace := ["internal/bytealg.IndexByteString", "internal/bytealg.IndexString", "internal/abi.NoEscape"], unfollowed := true, recurses := true, named := ["internal/bytealg.MaxLen", "strconv.ErrSyntax", "strconv.ErrRange", "internal/strconv.uint64pow10", "math/bits.deBruijn32tab", "math/bits.deBruijn64tab"], apart := false, laid := [("math/bits.deBruijn32tab", laid_math_bits_deBruijn32tab), ("math/bits.deBruijn64tab", laid_math_bits_deBruijn64tab), ("internal/strconv.uint64pow10", laid_internal_strconv_uint64pow10), ("strconv.ErrRange", laid_strconv_ErrRange), ("strconv.ErrSyntax", laid_strconv_ErrSyntax)], narrowed := true }
def EstimateLeastUptoSaid : Prop := estimateLeastUptoRow.holds Tryz.pinned (OpenSpec.upto estimateLeastSpec)

/-- 'gridhallkeep2.SuspectClean', WHERE WHAT IT READS IS OF BULK AT MOST 1048576: true; the input reads as it did. -/
def suspectCleanUptoRow : OpenClaim := { program := "ythgdchffeigkbaagreatdoor", sum := "f0f9865c18fc91e4e8f4f8d610ef26c5877c36cd71190b73588d9c5b19dc3b2b", func := "gridhall/gridhallkeep2.SuspectClean", spec := "suspectClean", inPlace := ["internal/bytealg.IndexByteString", "internal/bytealg.IndexString", "internal/abi.NoEscape"], unfollowed := true, recurses := true, named := ["internal/bytealg.MaxLen", "strconv.ErrSyntax", "strconv.ErrRange", "internal/strconv.uint64pow10", "math/bits.deBruijn32tab", "math/bits.deBruijn64tab"], apart := false, laid := [("math/bits.deBruijn32tab", laid_math_bits_deBruijn32tab), ("math/bits.deBruijn64tab", laid_math_bits_deBruijn64tab), ("internal/strconv.uint64pow10", laid_internal_strconv_uint64pow10), ("strconv.ErrRange", laid_strconv_ErrRange), ("strconv.ErrSyntax", laid_strconv_ErrSyntax)], narrowed := true }
def SuspectCleanUptoSaid : Prop := suspectCleanUptoRow.holds Tryz.pinned (OpenSpec.upto suspectCleanSpec)

/-- 'gridhallkeep2.EstimateExact', WHERE WHAT IT READS IS OF BULK AT MOST 1048576: true; the input reads as it did. -/
def estimateExactUptoRow : OpenClaim := { program := "ythgdchffeigkbaagreatdoor", sum := "f0f9865c18fc91e4e8f4f8d610ef26c5877c36cd71190b73588d9c5b19dc3b2b", func := "gridhall/gridhallkeep2.EstimateExact", spec := "estimateExact", inPlace := ["internal/bytealg.IndexByteString", "internal/bytealg.IndexString", "internal/abi.NoEscape"], unfollowed := true, recurses := true, named := ["internal/bytealg.MaxLen", "strconv.ErrSyntax", "strconv.ErrRange", "internal/strconv.uint64pow10", "math/bits.deBruijn32tab", "math/bits.deBruijn64tab"], apart := false, laid := [("math/bits.deBruijn32tab", laid_math_bits_deBruijn32tab), ("math/bits.deBruijn64tab", laid_math_bits_deBruijn64tab), ("internal/strconv.uint64pow10", laid_internal_strconv_uint64pow10), ("strconv.ErrRange", laid_strconv_ErrRange), ("strconv.ErrSyntax", laid_strconv_ErrSyntax)], narrowed := true }
def EstimateExactUptoSaid : Prop := estimateExactUptoRow.holds Tryz.pinned (OpenSpec.upto estimateExactSpec)

/-- 'gridhallkeep2.EstimateGain', WHERE WHAT IT READS IS OF BULK AT MOST 1048576: true; the input reads as it did. -/
def estimateGainUptoRow : OpenClaim := { program := "ythgdchffeigkbaagreatdoor", sum := "f0f9865c18fc91e4e8f4f8d610ef26c5877c36cd71190b73588d9c5b19dc3b2b", func := "gridhall/gridhallkeep2.EstimateGain", spec := "estimateGain", inPlace := ["internal/bytealg.IndexByteString", "internal/bytealg.IndexString", "internal/abi.NoEscape"], unfollowed := true, recurses := true, named := ["internal/bytealg.MaxLen", "strconv.ErrSyntax", "strconv.ErrRange", "internal/strconv.uint64pow10", "math/bits.deBruijn32tab", "math/bits.deBruijn64tab"], apart := false, laid := [("math/bits.deBruijn32tab", laid_math_bits_deBruijn32tab), ("math/bits.deBruijn64tab", laid_math_bits_deBruijn64tab), ("internal/strconv.uint64pow10", laid_internal_strconv_uint64pow10), ("strconv.ErrRange", laid_strconv_ErrRange), ("strconv.ErrSyntax", laid_strconv_ErrSyntax)], narrowed := true }
def EstimateGainUptoSaid : Prop := estimateGainUptoRow.holds Tryz.pinned (OpenSpec.upto estimateGainSpec)

/-- 'gridhallkeep2.SuspectNormal', WHERE WHAT IT READS IS OF BULK AT MOST 1048576: true; the input reads as it did. -/
def suspectNormalUptoRow : OpenClaim := { program := "ythgdchffeigkbaagreatdoor", sum := "f0f9865c18fc91e4e8f4f8d610ef26c5877c36cd71190b73588d9c5b19dc3b2b", func := "gridhall/gridhallkeep2.SuspectNormal", spec := "suspectNormal", inPlace := ["internal/bytealg.IndexByteString", "internal/bytealg.IndexString", "internal/abi.NoEscape"], unfollowed := true, recurses := true, named := ["internal/bytealg.MaxLen", "strconv.ErrSyntax", "strconv.ErrRange", "internal/strconv.uint64pow10", "math/bits.deBruijn32tab", "math/bits.deBruijn64tab"], apart := false, laid := [("math/bits.deBruijn32tab", laid_math_bits_deBruijn32tab), ("math/bits.deBruijn64tab", laid_math_bits_deBruijn64tab), ("internal/strconv.uint64pow10", laid_internal_strconv_uint64pow10), ("strconv.ErrRange", laid_strconv_ErrRange), ("strconv.ErrSyntax", laid_strconv_ErrSyntax)], narrowed := true }
def SuspectNormalUptoSaid : Prop := suspectNormalUptoRow.holds Tryz.pinned (OpenSpec.upto suspectNormalSpec)

/-- 'gridhallkeep2.SuspectSpread', WHERE WHAT IT READS IS OF BULK AT MOST 1048576: true; the input reads as it did. -/
def suspectSpreadUptoRow : OpenClaim := { program := "ythgdchffeigkbaagreatdoor", sum := "f0f9865c18fc91e4e8f4f8d610ef26c5877c36cd71190b73588d9c5b19dc3b2b", func := "gridhall/gridhallkeep2.SuspectSpread", spec := "suspectSpread", inPlace := ["internal/bytealg.IndexByteString", "internal/bytealg.IndexString", "internal/abi.NoEscape"], unfollowed := true, recurses := true, named := ["internal/bytealg.MaxLen", "strconv.ErrSyntax", "strconv.ErrRange", "internal/strconv.uint64pow10", "math/bits.deBruijn32tab", "math/bits.deBruijn64tab"], apart := false, laid := [("math/bits.deBruijn32tab", laid_math_bits_deBruijn32tab), ("math/bits.deBruijn64tab", laid_math_bits_deBruijn64tab), ("internal/strconv.uint64pow10", laid_internal_strconv_uint64pow10), ("strconv.ErrRange", laid_strconv_ErrRange), ("strconv.ErrSyntax", laid_strconv_ErrSyntax)], narrowed := true }
def SuspectSpreadUptoSaid : Prop := suspectSpreadUptoRow.holds Tryz.pinned (OpenSpec.upto suspectSpreadSpec)

/-- 'gridhallkeep2.SuspectOne', WHERE WHAT IT READS IS OF BULK AT MOST 1048576: true; the input reads as it did. -/
def suspectOneUptoRow : OpenClaim := { program := "ythgdchffeigkbaagreatdoor", sum := "f0f9865c18fc91e4e8f4f8d610ef26c5877c36cd71190b73588d9c5b19dc3b2b", func := "gridhall/gridhallkeep2.SuspectOne", spec := "suspectOne", inPlace := ["internal/bytealg.IndexByteString", "internal/bytealg.IndexString", "internal/abi.NoEscape"], unfollowed := true, recurses := true, named := ["internal/bytealg.MaxLen", "strconv.ErrSyntax", "strconv.ErrRange", "internal/strconv.uint64pow10", "math/bits.deBruijn32tab", "math/bits.deBruijn64tab"], apart := false, laid := [("math/bits.deBruijn32tab", laid_math_bits_deBruijn32tab), ("math/bits.deBruijn64tab", laid_math_bits_deBruijn64tab), ("internal/strconv.uint64pow10", laid_internal_strconv_uint64pow10), ("strconv.ErrRange", laid_strconv_ErrRange), ("strconv.ErrSyntax", laid_strconv_ErrSyntax)], narrowed := true }
def SuspectOneUptoSaid : Prop := suspectOneUptoRow.holds Tryz.pinned (OpenSpec.upto suspectOneSpec)

/-- 'gridhalltop.TopBadMeter', WHERE WHAT IT READS IS OF BULK AT MOST 1048576: true; the input reads as it did. -/
def topBadMeterUptoRow : OpenClaim := { program := "ythgdchffeigkbaagreatdoor", sum := "f0f9865c18fc91e4e8f4f8d610ef26c5877c36cd71190b73588d9c5b19dc3b2b", func := "gridhall/gridhalltop.TopBadMeter", spec := "topBadMeter", inPlace := ["internal/bytealg.IndexByteString", "internal/bytealg.IndexString", "internal/abi.NoEscape"], unfollowed := true, recurses := true, named := ["internal/strconv.uint64pow10", "math/bits.deBruijn32tab", "math/bits.deBruijn64tab", "internal/bytealg.MaxLen", "strconv.ErrSyntax", "strconv.ErrRange"], apart := false, laid := [("math/bits.deBruijn32tab", laid_math_bits_deBruijn32tab), ("math/bits.deBruijn64tab", laid_math_bits_deBruijn64tab), ("internal/strconv.uint64pow10", laid_internal_strconv_uint64pow10), ("strconv.ErrRange", laid_strconv_ErrRange), ("strconv.ErrSyntax", laid_strconv_ErrSyntax)], narrowed := true }
def TopBadMeterUptoSaid : Prop := topBadMeterUptoRow.holds Tryz.pinned (OpenSpec.upto topBadMeterSpec)

end Rows
end Go.Proofs.YthgdchffeigkbaaGreatDoor
