/-
  DERIVED. GIVEN WITH THE SEED: THE CARDS: each row of YtbbnlagdahickaaGreatDoorRows.lean that lists a variable, with what it lists TIED to the program's text (the seventh form; the later family's looks); each row that meets fmt, with fmt's text TOLD by the authors' own Lean function (tested against real Go, not proved from fmt's source: count such statements apart). THE CARD IS WHAT COUNTS. Prove the row's statement (the work); the ties are given (YtbbnlagdahickaaGreatDoorTie.lean); close each card by the builder's one call (the guide's Derived/Test/ToyasCard.lean, 'card_holds'). Laid BY PROGRAM, IN A SANDBOX (cutbox-door.mjs). By AI agents, Wed Nov 11 2026. No macro, syntax, notation, axiom, sorry.
-/
import Derived.Test.YtbbnlagdahickaaGreatDoorRows
import GoSem.ClaimSeven
namespace Go.Proofs.YtbbnlagdahickaaGreatDoor
namespace Rows

/-- THE TIED CARD OF 'laws.FnSamples'. -/
def fnSamplesCard : Claim7 := { stood := { row := fnSamplesRow, standIns := [], harness := (true, "08a2df8b92e59b88266bb64e800ffa13aacb8b5565521c21fd05e10f03826d29"), looks := true }, kinds := [], alts := [], laidByText := true, laidKinds := [.data, .data, .data, .data, .sentinel, .sentinel, .pinned], laidTests := true, laidLooks := .later }
def FnSamplesCardSaid : Prop := Claim7.holds Tryz.pinned (.plain (OpenSpec.ofChange fnSamplesSpec)) fnSamplesCard

/-- THE SECOND FORM's CARD OF 'laws.FnSamples'. -/
def fnSamplesUptoCard : Claim7 := { stood := { row := fnSamplesUptoRow, standIns := [], harness := (true, "08a2df8b92e59b88266bb64e800ffa13aacb8b5565521c21fd05e10f03826d29"), looks := true }, kinds := [], alts := [], laidByText := true, laidKinds := [.data, .data, .data, .data, .sentinel, .sentinel, .pinned], laidTests := true, laidLooks := .later }
def FnSamplesUptoCardSaid : Prop := Claim7.holds Tryz.pinned (.plain (OpenSpec.upto fnSamplesSpec)) fnSamplesUptoCard
end Rows
end Go.Proofs.YtbbnlagdahickaaGreatDoor
