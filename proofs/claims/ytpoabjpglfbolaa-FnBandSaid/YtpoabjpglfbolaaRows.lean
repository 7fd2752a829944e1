/-
  No cell of these rows narrows 'for every input' (looked for: loops, veiled, ifaces, maps, wideKeys, modest, calm, conditions, laid).
  DERIVED. THE GIVEN ROWS OF THIS SEAT. 5 by the template 'for every input the law returns true; each argument reads behind the call as it read before'; 0 by the template 'total and deterministic' (their statements: YtpoabjpglfbolaaTotals.lean).
  GIVEN WITH THE SEED: the statements are not yours to turn. If you find one false, say at which input.
  Laid BY PROGRAM, IN A SANDBOX (cutbox-rows.mjs): the forced cells as the released guide's own fill.sh prints them over the translation d641d14f56b5ebbf… (all of the seat's roots in one cut). By AI agents, Wed Nov 11 2026. No macro, syntax, notation, axiom, sorry.
-/
import Derived.Test.YtpoabjpglfbolaaChecked
import GoSem.Claim
import GoSem.ClaimJoined
import GoSem.ClaimMapViews
import Derived.JoinedTies
import Derived.KernelRfl
namespace Go.Proofs.Ytpoabjpglfbolaa
/- THE CELL 'sum', in the pinned program and in every row, IS THE sha256 OF THE DUMP (.gsa) THAT YtpoabjpglfbolaaProg.lean LOADS. Nothing in Lean hashes anything: it is a label: what it is worth is what the hold of that sum in a sandbox is worth. -/
noncomputable def Try.pinned : Pinned := { name := "ytpoabjpglfbolaa", sum := "d641d14f56b5ebbf95b80a4e3af3c6718b56bb427e0d07e003e8459bafa2cbba", checked := Try.checked }
namespace Rows
def none {H : Type} : Left H := { results := [], args := [] }

/-- 'laws.FnExactPodsOk': WHATEVER THE INPUT: true; the input reads as it did. -/
def fnExactPodsOkSpec : ChangeSpec := { name := "fnExactPodsOk", fn := fun _ => fun
  | [d] => { results := [.lit (.bool true)], args := [d] }
  | _ => none }
def fnExactPodsOkRow : OpenClaim := { program := "ytpoabjpglfbolaa", sum := "d641d14f56b5ebbf95b80a4e3af3c6718b56bb427e0d07e003e8459bafa2cbba", func := "loop.example/g00808/laws.FnExactPodsOk", spec := "fnExactPodsOk", apart := false }
def FnExactPodsOkSaid : Prop := fnExactPodsOkRow.holds Try.pinned (OpenSpec.ofChange fnExactPodsOkSpec)

/-- ITS FALSE NEIGHBOUR: 'it returns false'. Refute it at one input. -/
def fnExactPodsOkWrong : ChangeSpec := { name := "fnExactPodsOk", fn := fun _ => fun
  | [d] => { results := [.lit (.bool false)], args := [d] }
  | _ => none }
def FnExactPodsOkWrongFalsely : Prop := fnExactPodsOkRow.holds Try.pinned (OpenSpec.ofChange fnExactPodsOkWrong)

/-- 'laws.FnExactRefillOf': WHATEVER THE INPUT: true; the input reads as it did. -/
def fnExactRefillOfSpec : ChangeSpec := { name := "fnExactRefillOf", fn := fun _ => fun
  | [d1, d2] => { results := [.lit (.bool true)], args := [d1, d2] }
  | _ => none }
def fnExactRefillOfRow : OpenClaim := { program := "ytpoabjpglfbolaa", sum := "d641d14f56b5ebbf95b80a4e3af3c6718b56bb427e0d07e003e8459bafa2cbba", func := "loop.example/g00808/laws.FnExactRefillOf", spec := "fnExactRefillOf", apart := false }
def FnExactRefillOfSaid : Prop := fnExactRefillOfRow.holds Try.pinned (OpenSpec.ofChange fnExactRefillOfSpec)

/-- ITS FALSE NEIGHBOUR: 'it returns false'. Refute it at one input. -/
def fnExactRefillOfWrong : ChangeSpec := { name := "fnExactRefillOf", fn := fun _ => fun
  | [d1, d2] => { results := [.lit (.bool false)], args := [d1, d2] }
  | _ => none }
def FnExactRefillOfWrongFalsely : Prop := fnExactRefillOfRow.holds Try.pinned (OpenSpec.ofChange fnExactRefillOfWrong)

/-- 'laws.FnExactAliveOf': WHATEVER THE INPUT: true; the input reads as it did. -/
def fnExactAliveOfSpec : ChangeSpec := { name := "fnExactAliveOf", fn := fun _ => fun
  | [d] => { results := [.lit (.bool true)], args := [d] }
  | _ => none }
def fnExactAliveOfRow : OpenClaim := { program := "ytpoabjpglfbolaa", sum := "d641d14f56b5ebbf95b80a4e3af3c6718b56bb427e0d07e003e8459bafa2cbba", func := "loop.example/g00808/laws.FnExactAliveOf", spec := "fnExactAliveOf", apart := false }
def FnExactAliveOfSaid : Prop := fnExactAliveOfRow.holds Try.pinned (OpenSpec.ofChange fnExactAliveOfSpec)

/-- ITS FALSE NEIGHBOUR: 'it returns false'. Refute it at one input. -/
def fnExactAliveOfWrong : ChangeSpec := { name := "fnExactAliveOf", fn := fun _ => fun
  | [d] => { results := [.lit (.bool false)], args := [d] }
  | _ => none }
def FnExactAliveOfWrongFalsely : Prop := fnExactAliveOfRow.holds Try.pinned (OpenSpec.ofChange fnExactAliveOfWrong)

/-- 'laws.FnExactWantOf': WHATEVER THE INPUT: true; the input reads as it did. -/
def fnExactWantOfSpec : ChangeSpec := { name := "fnExactWantOf", fn := fun _ => fun
  | [d1, d2, d3] => { results := [.lit (.bool true)], args := [d1, d2, d3] }
  | _ => none }
def fnExactWantOfRow : OpenClaim := { program := "ytpoabjpglfbolaa", sum := "d641d14f56b5ebbf95b80a4e3af3c6718b56bb427e0d07e003e8459bafa2cbba", func := "loop.example/g00808/laws.FnExactWantOf", spec := "fnExactWantOf", apart := false }
def FnExactWantOfSaid : Prop := fnExactWantOfRow.holds Try.pinned (OpenSpec.ofChange fnExactWantOfSpec)

/-- ITS FALSE NEIGHBOUR: 'it returns false'. Refute it at one input. -/
def fnExactWantOfWrong : ChangeSpec := { name := "fnExactWantOf", fn := fun _ => fun
  | [d1, d2, d3] => { results := [.lit (.bool false)], args := [d1, d2, d3] }
  | _ => none }
def FnExactWantOfWrongFalsely : Prop := fnExactWantOfRow.holds Try.pinned (OpenSpec.ofChange fnExactWantOfWrong)

/-- 'laws.FnBand': WHATEVER THE INPUT: true; the input reads as it did. -/
def fnBandSpec : ChangeSpec := { name := "fnBand", fn := fun _ => fun
  | [d] => { results := [.lit (.bool true)], args := [d] }
  | _ => none }
def fnBandRow : OpenClaim := { program := "ytpoabjpglfbolaa", sum := "d641d14f56b5ebbf95b80a4e3af3c6718b56bb427e0d07e003e8459bafa2cbba", func := "loop.example/g00808/laws.FnBand", spec := "fnBand", apart := false }
def FnBandSaid : Prop := fnBandRow.holds Try.pinned (OpenSpec.ofChange fnBandSpec)

/-- ITS FALSE NEIGHBOUR: 'it returns false'. Refute it at one input. -/
def fnBandWrong : ChangeSpec := { name := "fnBand", fn := fun _ => fun
  | [d] => { results := [.lit (.bool false)], args := [d] }
  | _ => none }
def FnBandWrongFalsely : Prop := fnBandRow.holds Try.pinned (OpenSpec.ofChange fnBandWrong)

/- THE SECOND FORM. 'bulk': how many values and letters a reading holds, each counted each time it is reached (what is shared counts as often as it is met; a slice's spare places count too). A statement '..UptoSaid' is the law's where the arguments, and the package variables that the reading takes, are together of bulk at most 1048576: NARROWER than '..Said'. Prove '..Said' where nothing that the law and all that it calls make is longer than what came in: it says more and counts as full. Else prove '..UptoSaid'. A law counts once. -/
mutual
def uptoBulk {H : Type} : DataW H → Nat
  | .lit (.string bytes) => bytes.length + 1
  | .lit _ => 1
  | .nil => 1
  | .ptr d => uptoBulk d + 1
  | .slice elems spare => uptoBulkAll elems + uptoBulkAll spare + 1
  | .agg parts => uptoBulkAll parts + 1
  | .iface _ d => uptoBulk d + 1
  | .map entries => uptoBulkEntries entries + 1
  | .held _ => 1
def uptoBulkAll {H : Type} : List (DataW H) → Nat
  | [] => 0
  | d :: r => uptoBulk d + uptoBulkAll r
def uptoBulkEntries {H : Type} : List (Lit × DataW H) → Nat
  | [] => 0
  | x :: r => uptoBulkEntry x + uptoBulkEntries r
def uptoBulkEntry {H : Type} : Lit × DataW H → Nat
  | (.string bytes, d) => bytes.length + uptoBulk d + 1
  | (_, d) => uptoBulk d + 1
 end
def uptoSmall : (H : Type) → List (DataW H) → Bool := fun _ ds => decide (uptoBulkAll ds ≤ 1048576)
def OpenSpec.upto (s : _root_.Go.ChangeSpec) : _root_.Go.OpenSpec := { _root_.Go.OpenSpec.ofChange s with cond := some uptoSmall }

/-- 'laws.FnExactPodsOk', WHERE WHAT IT READS IS OF BULK AT MOST 1048576: true; the input reads as it did. -/
def fnExactPodsOkUptoRow : OpenClaim := { program := "ytpoabjpglfbolaa", sum := "d641d14f56b5ebbf95b80a4e3af3c6718b56bb427e0d07e003e8459bafa2cbba", func := "loop.example/g00808/laws.FnExactPodsOk", spec := "fnExactPodsOk", apart := false, narrowed := true }
def FnExactPodsOkUptoSaid : Prop := fnExactPodsOkUptoRow.holds Try.pinned (OpenSpec.upto fnExactPodsOkSpec)

/-- 'laws.FnExactRefillOf', WHERE WHAT IT READS IS OF BULK AT MOST 1048576: true; the input reads as it did. -/
def fnExactRefillOfUptoRow : OpenClaim := { program := "ytpoabjpglfbolaa", sum := "d641d14f56b5ebbf95b80a4e3af3c6718b56bb427e0d07e003e8459bafa2cbba", func := "loop.example/g00808/laws.FnExactRefillOf", spec := "fnExactRefillOf", apart := false, narrowed := true }
def FnExactRefillOfUptoSaid : Prop := fnExactRefillOfUptoRow.holds Try.pinned (OpenSpec.upto fnExactRefillOfSpec)

/-- 'laws.FnExactAliveOf', WHERE WHAT IT READS IS OF BULK AT MOST 1048576: true; the input reads as it did. -/
def fnExactAliveOfUptoRow : OpenClaim := { program := "ytpoabjpglfbolaa", sum := "d641d14f56b5ebbf95b80a4e3af3c6718b56bb427e0d07e003e8459bafa2cbba", func := "loop.example/g00808/laws.FnExactAliveOf", spec := "fnExactAliveOf", apart := false, narrowed := true }
def FnExactAliveOfUptoSaid : Prop := fnExactAliveOfUptoRow.holds Try.pinned (OpenSpec.upto fnExactAliveOfSpec)

/-- 'laws.FnExactWantOf', WHERE WHAT IT READS IS OF BULK AT MOST 1048576: true; the input reads as it did. -/
def fnExactWantOfUptoRow : OpenClaim := { program := "ytpoabjpglfbolaa", sum := "d641d14f56b5ebbf95b80a4e3af3c6718b56bb427e0d07e003e8459bafa2cbba", func := "loop.example/g00808/laws.FnExactWantOf", spec := "fnExactWantOf", apart := false, narrowed := true }
def FnExactWantOfUptoSaid : Prop := fnExactWantOfUptoRow.holds Try.pinned (OpenSpec.upto fnExactWantOfSpec)

/-- 'laws.FnBand', WHERE WHAT IT READS IS OF BULK AT MOST 1048576: true; the input reads as it did. -/
def fnBandUptoRow : OpenClaim := { program := "ytpoabjpglfbolaa", sum := "d641d14f56b5ebbf95b80a4e3af3c6718b56bb427e0d07e003e8459bafa2cbba", func := "loop.example/g00808/laws.FnBand", spec := "fnBand", apart := false, narrowed := true }
def FnBandUptoSaid : Prop := fnBandUptoRow.holds Try.pinned (OpenSpec.upto fnBandSpec)

end Rows
end Go.Proofs.Ytpoabjpglfbolaa
