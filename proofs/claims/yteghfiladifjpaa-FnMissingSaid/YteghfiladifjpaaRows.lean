/-
  No cell of these rows narrows 'for every input' (looked for: loops, veiled, ifaces, maps, wideKeys, modest, calm, conditions, laid).
  DERIVED. THE GIVEN ROWS OF THIS SEAT. 12 by the template 'for every input the law returns true; each argument reads behind the call as it read before'; 0 by the template 'total and deterministic' (their statements: YteghfiladifjpaaTotals.lean).
  GIVEN WITH THE SEED: the statements are not yours to turn. If you find one false, say at which input.
  Laid BY PROGRAM, IN A SANDBOX (cutbox-rows.mjs): the forced cells as the released guide's own fill.sh prints them over the translation 1801a3759b84b65e… (all of the seat's roots in one cut). By AI agents, Wed Nov 11 2026. No macro, syntax, notation, axiom, sorry.
-/
import Derived.Test.YteghfiladifjpaaChecked
import GoSem.Claim
import GoSem.ClaimJoined
import GoSem.ClaimMapViews
import Derived.JoinedTies
import Derived.KernelRfl
namespace Go.Proofs.Yteghfiladifjpaa
/- THE CELL 'sum', in the pinned program and in every row, IS THE sha256 OF THE DUMP (.gsa) THAT YteghfiladifjpaaProg.lean LOADS. Nothing in Lean hashes anything: it is a label: what it is worth is what the hold of that sum in a sandbox is worth. -/
noncomputable def Try.pinned : Pinned := { name := "yteghfiladifjpaa", sum := "1801a3759b84b65ef6a417623248e567fd3560cd99ee658d8b0fe0435f10d2f0", checked := Try.checked }
namespace Rows
def none {H : Type} : Left H := { results := [], args := [] }

/-- 'laws.FnExactRulesOk': WHATEVER THE INPUT: true; the input reads as it did. -/
def fnExactRulesOkSpec : ChangeSpec := { name := "fnExactRulesOk", fn := fun _ => fun
  | [d] => { results := [.lit (.bool true)], args := [d] }
  | _ => none }
def fnExactRulesOkRow : OpenClaim := { program := "yteghfiladifjpaa", sum := "1801a3759b84b65ef6a417623248e567fd3560cd99ee658d8b0fe0435f10d2f0", func := "loop.example/g00808/laws.FnExactRulesOk", spec := "fnExactRulesOk", apart := false }
def FnExactRulesOkSaid : Prop := fnExactRulesOkRow.holds Try.pinned (OpenSpec.ofChange fnExactRulesOkSpec)

/-- ITS FALSE NEIGHBOUR: 'it returns false'. Refute it at one input. -/
def fnExactRulesOkWrong : ChangeSpec := { name := "fnExactRulesOk", fn := fun _ => fun
  | [d] => { results := [.lit (.bool false)], args := [d] }
  | _ => none }
def FnExactRulesOkWrongFalsely : Prop := fnExactRulesOkRow.holds Try.pinned (OpenSpec.ofChange fnExactRulesOkWrong)

/-- 'laws.FnExactCountClass': WHATEVER THE INPUT: true; the input reads as it did. -/
def fnExactCountClassSpec : ChangeSpec := { name := "fnExactCountClass", fn := fun _ => fun
  | [d1, d2] => { results := [.lit (.bool true)], args := [d1, d2] }
  | _ => none }
def fnExactCountClassRow : OpenClaim := { program := "yteghfiladifjpaa", sum := "1801a3759b84b65ef6a417623248e567fd3560cd99ee658d8b0fe0435f10d2f0", func := "loop.example/g00808/laws.FnExactCountClass", spec := "fnExactCountClass", apart := false }
def FnExactCountClassSaid : Prop := fnExactCountClassRow.holds Try.pinned (OpenSpec.ofChange fnExactCountClassSpec)

/-- ITS FALSE NEIGHBOUR: 'it returns false'. Refute it at one input. -/
def fnExactCountClassWrong : ChangeSpec := { name := "fnExactCountClass", fn := fun _ => fun
  | [d1, d2] => { results := [.lit (.bool false)], args := [d1, d2] }
  | _ => none }
def FnExactCountClassWrongFalsely : Prop := fnExactCountClassRow.holds Try.pinned (OpenSpec.ofChange fnExactCountClassWrong)

/-- 'laws.FnMissing': WHATEVER THE INPUT: true; the input reads as it did. -/
def fnMissingSpec : ChangeSpec := { name := "fnMissing", fn := fun _ => fun
  | [d] => { results := [.lit (.bool true)], args := [d] }
  | _ => none }
def fnMissingRow : OpenClaim := { program := "yteghfiladifjpaa", sum := "1801a3759b84b65ef6a417623248e567fd3560cd99ee658d8b0fe0435f10d2f0", func := "loop.example/g00808/laws.FnMissing", spec := "fnMissing", apart := false }
def FnMissingSaid : Prop := fnMissingRow.holds Try.pinned (OpenSpec.ofChange fnMissingSpec)

/-- ITS FALSE NEIGHBOUR: 'it returns false'. Refute it at one input. -/
def fnMissingWrong : ChangeSpec := { name := "fnMissing", fn := fun _ => fun
  | [d] => { results := [.lit (.bool false)], args := [d] }
  | _ => none }
def FnMissingWrongFalsely : Prop := fnMissingRow.holds Try.pinned (OpenSpec.ofChange fnMissingWrong)

/-- 'laws.FnExactGoalOk': WHATEVER THE INPUT: true; the input reads as it did. -/
def fnExactGoalOkSpec : ChangeSpec := { name := "fnExactGoalOk", fn := fun _ => fun
  | [d] => { results := [.lit (.bool true)], args := [d] }
  | _ => none }
def fnExactGoalOkRow : OpenClaim := { program := "yteghfiladifjpaa", sum := "1801a3759b84b65ef6a417623248e567fd3560cd99ee658d8b0fe0435f10d2f0", func := "loop.example/g00808/laws.FnExactGoalOk", spec := "fnExactGoalOk", apart := false }
def FnExactGoalOkSaid : Prop := fnExactGoalOkRow.holds Try.pinned (OpenSpec.ofChange fnExactGoalOkSpec)

/-- ITS FALSE NEIGHBOUR: 'it returns false'. Refute it at one input. -/
def fnExactGoalOkWrong : ChangeSpec := { name := "fnExactGoalOk", fn := fun _ => fun
  | [d] => { results := [.lit (.bool false)], args := [d] }
  | _ => none }
def FnExactGoalOkWrongFalsely : Prop := fnExactGoalOkRow.holds Try.pinned (OpenSpec.ofChange fnExactGoalOkWrong)

/-- 'laws.FnExactPodOk': WHATEVER THE INPUT: true; the input reads as it did. -/
def fnExactPodOkSpec : ChangeSpec := { name := "fnExactPodOk", fn := fun _ => fun
  | [d] => { results := [.lit (.bool true)], args := [d] }
  | _ => none }
def fnExactPodOkRow : OpenClaim := { program := "yteghfiladifjpaa", sum := "1801a3759b84b65ef6a417623248e567fd3560cd99ee658d8b0fe0435f10d2f0", func := "loop.example/g00808/laws.FnExactPodOk", spec := "fnExactPodOk", apart := false }
def FnExactPodOkSaid : Prop := fnExactPodOkRow.holds Try.pinned (OpenSpec.ofChange fnExactPodOkSpec)

/-- ITS FALSE NEIGHBOUR: 'it returns false'. Refute it at one input. -/
def fnExactPodOkWrong : ChangeSpec := { name := "fnExactPodOk", fn := fun _ => fun
  | [d] => { results := [.lit (.bool false)], args := [d] }
  | _ => none }
def FnExactPodOkWrongFalsely : Prop := fnExactPodOkRow.holds Try.pinned (OpenSpec.ofChange fnExactPodOkWrong)

/-- 'laws.FnExactRatioSign': WHATEVER THE INPUT: true; the input reads as it did. -/
def fnExactRatioSignSpec : ChangeSpec := { name := "fnExactRatioSign", fn := fun _ => fun
  | [d1, d2, d3] => { results := [.lit (.bool true)], args := [d1, d2, d3] }
  | _ => none }
def fnExactRatioSignRow : OpenClaim := { program := "yteghfiladifjpaa", sum := "1801a3759b84b65ef6a417623248e567fd3560cd99ee658d8b0fe0435f10d2f0", func := "loop.example/g00808/laws.FnExactRatioSign", spec := "fnExactRatioSign", apart := false }
def FnExactRatioSignSaid : Prop := fnExactRatioSignRow.holds Try.pinned (OpenSpec.ofChange fnExactRatioSignSpec)

/-- ITS FALSE NEIGHBOUR: 'it returns false'. Refute it at one input. -/
def fnExactRatioSignWrong : ChangeSpec := { name := "fnExactRatioSign", fn := fun _ => fun
  | [d1, d2, d3] => { results := [.lit (.bool false)], args := [d1, d2, d3] }
  | _ => none }
def FnExactRatioSignWrongFalsely : Prop := fnExactRatioSignRow.holds Try.pinned (OpenSpec.ofChange fnExactRatioSignWrong)

/-- 'laws.FnExactCombineWants': WHATEVER THE INPUT: true; the input reads as it did. -/
def fnExactCombineWantsSpec : ChangeSpec := { name := "fnExactCombineWants", fn := fun _ => fun
  | [d1, d2] => { results := [.lit (.bool true)], args := [d1, d2] }
  | _ => none }
def fnExactCombineWantsRow : OpenClaim := { program := "yteghfiladifjpaa", sum := "1801a3759b84b65ef6a417623248e567fd3560cd99ee658d8b0fe0435f10d2f0", func := "loop.example/g00808/laws.FnExactCombineWants", spec := "fnExactCombineWants", apart := false }
def FnExactCombineWantsSaid : Prop := fnExactCombineWantsRow.holds Try.pinned (OpenSpec.ofChange fnExactCombineWantsSpec)

/-- ITS FALSE NEIGHBOUR: 'it returns false'. Refute it at one input. -/
def fnExactCombineWantsWrong : ChangeSpec := { name := "fnExactCombineWants", fn := fun _ => fun
  | [d1, d2] => { results := [.lit (.bool false)], args := [d1, d2] }
  | _ => none }
def FnExactCombineWantsWrongFalsely : Prop := fnExactCombineWantsRow.holds Try.pinned (OpenSpec.ofChange fnExactCombineWantsWrong)

/-- 'laws.FnExactMovesOk': WHATEVER THE INPUT: true; the input reads as it did. -/
def fnExactMovesOkSpec : ChangeSpec := { name := "fnExactMovesOk", fn := fun _ => fun
  | [d] => { results := [.lit (.bool true)], args := [d] }
  | _ => none }
def fnExactMovesOkRow : OpenClaim := { program := "yteghfiladifjpaa", sum := "1801a3759b84b65ef6a417623248e567fd3560cd99ee658d8b0fe0435f10d2f0", func := "loop.example/g00808/laws.FnExactMovesOk", spec := "fnExactMovesOk", apart := false }
def FnExactMovesOkSaid : Prop := fnExactMovesOkRow.holds Try.pinned (OpenSpec.ofChange fnExactMovesOkSpec)

/-- ITS FALSE NEIGHBOUR: 'it returns false'. Refute it at one input. -/
def fnExactMovesOkWrong : ChangeSpec := { name := "fnExactMovesOk", fn := fun _ => fun
  | [d] => { results := [.lit (.bool false)], args := [d] }
  | _ => none }
def FnExactMovesOkWrongFalsely : Prop := fnExactMovesOkRow.holds Try.pinned (OpenSpec.ofChange fnExactMovesOkWrong)

/-- 'laws.FnExactNotesOk': WHATEVER THE INPUT: true; the input reads as it did. -/
def fnExactNotesOkSpec : ChangeSpec := { name := "fnExactNotesOk", fn := fun _ => fun
  | [d] => { results := [.lit (.bool true)], args := [d] }
  | _ => none }
def fnExactNotesOkRow : OpenClaim := { program := "yteghfiladifjpaa", sum := "1801a3759b84b65ef6a417623248e567fd3560cd99ee658d8b0fe0435f10d2f0", func := "loop.example/g00808/laws.FnExactNotesOk", spec := "fnExactNotesOk", apart := false }
def FnExactNotesOkSaid : Prop := fnExactNotesOkRow.holds Try.pinned (OpenSpec.ofChange fnExactNotesOkSpec)

/-- ITS FALSE NEIGHBOUR: 'it returns false'. Refute it at one input. -/
def fnExactNotesOkWrong : ChangeSpec := { name := "fnExactNotesOk", fn := fun _ => fun
  | [d] => { results := [.lit (.bool false)], args := [d] }
  | _ => none }
def FnExactNotesOkWrongFalsely : Prop := fnExactNotesOkRow.holds Try.pinned (OpenSpec.ofChange fnExactNotesOkWrong)

/-- 'laws.FnCombined': WHATEVER THE INPUT: true; the input reads as it did. -/
def fnCombinedSpec : ChangeSpec := { name := "fnCombined", fn := fun _ => fun
  | [d] => { results := [.lit (.bool true)], args := [d] }
  | _ => none }
def fnCombinedRow : OpenClaim := { program := "yteghfiladifjpaa", sum := "1801a3759b84b65ef6a417623248e567fd3560cd99ee658d8b0fe0435f10d2f0", func := "loop.example/g00808/laws.FnCombined", spec := "fnCombined", apart := false }
def FnCombinedSaid : Prop := fnCombinedRow.holds Try.pinned (OpenSpec.ofChange fnCombinedSpec)

/-- ITS FALSE NEIGHBOUR: 'it returns false'. Refute it at one input. -/
def fnCombinedWrong : ChangeSpec := { name := "fnCombined", fn := fun _ => fun
  | [d] => { results := [.lit (.bool false)], args := [d] }
  | _ => none }
def FnCombinedWrongFalsely : Prop := fnCombinedRow.holds Try.pinned (OpenSpec.ofChange fnCombinedWrong)

/-- 'laws.FnExactSideOk': WHATEVER THE INPUT: true; the input reads as it did. -/
def fnExactSideOkSpec : ChangeSpec := { name := "fnExactSideOk", fn := fun _ => fun
  | [d] => { results := [.lit (.bool true)], args := [d] }
  | _ => none }
def fnExactSideOkRow : OpenClaim := { program := "yteghfiladifjpaa", sum := "1801a3759b84b65ef6a417623248e567fd3560cd99ee658d8b0fe0435f10d2f0", func := "loop.example/g00808/laws.FnExactSideOk", spec := "fnExactSideOk", apart := false }
def FnExactSideOkSaid : Prop := fnExactSideOkRow.holds Try.pinned (OpenSpec.ofChange fnExactSideOkSpec)

/-- ITS FALSE NEIGHBOUR: 'it returns false'. Refute it at one input. -/
def fnExactSideOkWrong : ChangeSpec := { name := "fnExactSideOk", fn := fun _ => fun
  | [d] => { results := [.lit (.bool false)], args := [d] }
  | _ => none }
def FnExactSideOkWrongFalsely : Prop := fnExactSideOkRow.holds Try.pinned (OpenSpec.ofChange fnExactSideOkWrong)

/-- 'laws.FnExactInBand': WHATEVER THE INPUT: true; the input reads as it did. -/
def fnExactInBandSpec : ChangeSpec := { name := "fnExactInBand", fn := fun _ => fun
  | [d1, d2, d3] => { results := [.lit (.bool true)], args := [d1, d2, d3] }
  | _ => none }
def fnExactInBandRow : OpenClaim := { program := "yteghfiladifjpaa", sum := "1801a3759b84b65ef6a417623248e567fd3560cd99ee658d8b0fe0435f10d2f0", func := "loop.example/g00808/laws.FnExactInBand", spec := "fnExactInBand", apart := false }
def FnExactInBandSaid : Prop := fnExactInBandRow.holds Try.pinned (OpenSpec.ofChange fnExactInBandSpec)

/-- ITS FALSE NEIGHBOUR: 'it returns false'. Refute it at one input. -/
def fnExactInBandWrong : ChangeSpec := { name := "fnExactInBand", fn := fun _ => fun
  | [d1, d2, d3] => { results := [.lit (.bool false)], args := [d1, d2, d3] }
  | _ => none }
def FnExactInBandWrongFalsely : Prop := fnExactInBandRow.holds Try.pinned (OpenSpec.ofChange fnExactInBandWrong)

/- THE SECOND FORM. 'bulk': how many values and letters a reading holds, each counted each time it is reached (what is shared counts as often as it is met; a slice's spare places count too). A statement '..UptoSaid' is the law's where the arguments, and the package variables that the reading takes, are together of bulk at most 1048576: NARROWER than '..Said'. Prove '..Said' where nothing that the law and all that it calls make is longer than what came in: it says more and counts as full. Else prove '..UptoSaid'. A law counts once. -/
mutual
def uptoBulk {H : Type} : DataW H → Nat
  | .lit (.string bytes) => bytes.length + 1
  | .lit _ => 1
  | .nil => 1
  | .ptr d => uptoBulk d + 1
  | .slice elems spare => uptoBulkAll elems + uptoBulkAll spare + 1
  | .agg parts => uptoBulkAll parts + 1
  | .iface _ d => uptoBulk d + 1
  | .map entries => uptoBulkEntries entries + 1
  | .held _ => 1
def uptoBulkAll {H : Type} : List (DataW H) → Nat
  | [] => 0
  | d :: r => uptoBulk d + uptoBulkAll r
def uptoBulkEntries {H : Type} : List (Lit × DataW H) → Nat
  | [] => 0
  | x :: r => uptoBulkEntry x + uptoBulkEntries r
def uptoBulkEntry {H : Type} : Lit × DataW H → Nat
  | (.string bytes, d) => bytes.length + uptoBulk d + 1
  | (_, d) => uptoBulk d + 1
 end
def uptoSmall : (H : Type) → List (DataW H) → Bool := fun _ ds => decide (uptoBulkAll ds ≤ 1048576)
def OpenSpec.upto (s : _root_.Go.ChangeSpec) : _root_.Go.OpenSpec := { _root_.Go.OpenSpec.ofChange s with cond := some uptoSmall }

/-- 'laws.FnExactRulesOk', WHERE WHAT IT READS IS OF BULK AT MOST 1048576: true; the input reads as it did. -/
def fnExactRulesOkUptoRow : OpenClaim := { program := "yteghfiladifjpaa", sum := "1801a3759b84b65ef6a417623248e567fd3560cd99ee658d8b0fe0435f10d2f0", func := "loop.example/g00808/laws.FnExactRulesOk", spec := "fnExactRulesOk", apart := false, narrowed := true }
def FnExactRulesOkUptoSaid : Prop := fnExactRulesOkUptoRow.holds Try.pinned (OpenSpec.upto fnExactRulesOkSpec)

/-- 'laws.FnExactCountClass', WHERE WHAT IT READS IS OF BULK AT MOST 1048576: true; the input reads as it did. -/
def fnExactCountClassUptoRow : OpenClaim := { program := "yteghfiladifjpaa", sum := "1801a3759b84b65ef6a417623248e567fd3560cd99ee658d8b0fe0435f10d2f0", func := "loop.example/g00808/laws.FnExactCountClass", spec := "fnExactCountClass", apart := false, narrowed := true }
def FnExactCountClassUptoSaid : Prop := fnExactCountClassUptoRow.holds Try.pinned (OpenSpec.upto fnExactCountClassSpec)

/-- 'laws.FnMissing', WHERE WHAT IT READS IS OF BULK AT MOST 1048576: true; the input reads as it did. -/
def fnMissingUptoRow : OpenClaim := { program := "yteghfiladifjpaa", sum := "1801a3759b84b65ef6a417623248e567fd3560cd99ee658d8b0fe0435f10d2f0", func := "loop.example/g00808/laws.FnMissing", spec := "fnMissing", apart := false, narrowed := true }
def FnMissingUptoSaid : Prop := fnMissingUptoRow.holds Try.pinned (OpenSpec.upto fnMissingSpec)

/-- 'laws.FnExactGoalOk', WHERE WHAT IT READS IS OF BULK AT MOST 1048576: true; the input reads as it did. -/
def fnExactGoalOkUptoRow : OpenClaim := { program := "yteghfiladifjpaa", sum := "1801a3759b84b65ef6a417623248e567fd3560cd99ee658d8b0fe0435f10d2f0", func := "loop.example/g00808/laws.FnExactGoalOk", spec := "fnExactGoalOk", apart := false, narrowed := true }
def FnExactGoalOkUptoSaid : Prop := fnExactGoalOkUptoRow.holds Try.pinned (OpenSpec.upto fnExactGoalOkSpec)

/-- 'laws.FnExactPodOk', WHERE WHAT IT READS IS OF BULK AT MOST 1048576: true; the input reads as it did. -/
def fnExactPodOkUptoRow : OpenClaim := { program := "yteghfiladifjpaa", sum := "1801a3759b84b65ef6a417623248e567fd3560cd99ee658d8b0fe0435f10d2f0", func := "loop.example/g00808/laws.FnExactPodOk", spec := "fnExactPodOk", apart := false, narrowed := true }
def FnExactPodOkUptoSaid : Prop := fnExactPodOkUptoRow.holds Try.pinned (OpenSpec.upto fnExactPodOkSpec)

/-- 'laws.FnExactRatioSign', WHERE WHAT IT READS IS OF BULK AT MOST 1048576: true; the input reads as it did. -/
def fnExactRatioSignUptoRow : OpenClaim := { program := "yteghfiladifjpaa", sum := "1801a3759b84b65ef6a417623248e567fd3560cd99ee658d8b0fe0435f10d2f0", func := "loop.example/g00808/laws.FnExactRatioSign", spec := "fnExactRatioSign", apart := false, narrowed := true }
def FnExactRatioSignUptoSaid : Prop := fnExactRatioSignUptoRow.holds Try.pinned (OpenSpec.upto fnExactRatioSignSpec)

/-- 'laws.FnExactCombineWants', WHERE WHAT IT READS IS OF BULK AT MOST 1048576: true; the input reads as it did. -/
def fnExactCombineWantsUptoRow : OpenClaim := { program := "yteghfiladifjpaa", sum := "1801a3759b84b65ef6a417623248e567fd3560cd99ee658d8b0fe0435f10d2f0", func := "loop.example/g00808/laws.FnExactCombineWants", spec := "fnExactCombineWants", apart := false, narrowed := true }
def FnExactCombineWantsUptoSaid : Prop := fnExactCombineWantsUptoRow.holds Try.pinned (OpenSpec.upto fnExactCombineWantsSpec)

/-- 'laws.FnExactMovesOk', WHERE WHAT IT READS IS OF BULK AT MOST 1048576: true; the input reads as it did. -/
def fnExactMovesOkUptoRow : OpenClaim := { program := "yteghfiladifjpaa", sum := "1801a3759b84b65ef6a417623248e567fd3560cd99ee658d8b0fe0435f10d2f0", func := "loop.example/g00808/laws.FnExactMovesOk", spec := "fnExactMovesOk", apart := false, narrowed := true }
def FnExactMovesOkUptoSaid : Prop := fnExactMovesOkUptoRow.holds Try.pinned (OpenSpec.upto fnExactMovesOkSpec)

/-- 'laws.FnExactNotesOk', WHERE WHAT IT READS IS OF BULK AT MOST 1048576: true; the input reads as it did. -/
def fnExactNotesOkUptoRow : OpenClaim := { program := "yteghfiladifjpaa", sum := "1801a3759b84b65ef6a417623248e567fd3560cd99ee658d8b0fe0435f10d2f0", func := "loop.example/g00808/laws.FnExactNotesOk", spec := "fnExactNotesOk", apart := false, narrowed := true }
def FnExactNotesOkUptoSaid : Prop := fnExactNotesOkUptoRow.holds Try.pinned (OpenSpec.upto fnExactNotesOkSpec)

/-- 'laws.FnCombined', WHERE WHAT IT READS IS OF BULK AT MOST 1048576: true; the input reads as it did. -/
def fnCombinedUptoRow : OpenClaim := { program := "yteghfiladifjpaa", sum := "1801a3759b84b65ef6a417623248e567fd3560cd99ee658d8b0fe0435f10d2f0", func := "loop.example/g00808/laws.FnCombined", spec := "fnCombined", apart := false, narrowed := true }
def FnCombinedUptoSaid : Prop := fnCombinedUptoRow.holds Try.pinned (OpenSpec.upto fnCombinedSpec)

/-- 'laws.FnExactSideOk', WHERE WHAT IT READS IS OF BULK AT MOST 1048576: true; the input reads as it did. -/
def fnExactSideOkUptoRow : OpenClaim := { program := "yteghfiladifjpaa", sum := "1801a3759b84b65ef6a417623248e567fd3560cd99ee658d8b0fe0435f10d2f0", func := "loop.example/g00808/laws.FnExactSideOk", spec := "fnExactSideOk", apart := false, narrowed := true }
def FnExactSideOkUptoSaid : Prop := fnExactSideOkUptoRow.holds Try.pinned (OpenSpec.upto fnExactSideOkSpec)

/-- 'laws.FnExactInBand', WHERE WHAT IT READS IS OF BULK AT MOST 1048576: true; the input reads as it did. -/
def fnExactInBandUptoRow : OpenClaim := { program := "yteghfiladifjpaa", sum := "1801a3759b84b65ef6a417623248e567fd3560cd99ee658d8b0fe0435f10d2f0", func := "loop.example/g00808/laws.FnExactInBand", spec := "fnExactInBand", apart := false, narrowed := true }
def FnExactInBandUptoSaid : Prop := fnExactInBandUptoRow.holds Try.pinned (OpenSpec.upto fnExactInBandSpec)

end Rows
end Go.Proofs.Yteghfiladifjpaa
