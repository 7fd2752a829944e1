/- What the Go functions the kinds of values compute, as Lean functions, and the proof that each call comes to just that. Conditions: those at each theorem. -/
import Derived.Test.YtbbnlagdahickaaDoorProg
import Derived.Below
import Derived.Deep.Draws
import Derived.Deep.AppendLies
import Derived.Maps.AppendAt
import Derived.OwnWalk
import Derived.Laws.BytesArg
import Derived.Laws.MakeOwn
import Derived.Laws.OwnMore
import Derived.Deep.OwnRows
import Derived.Tactics
import Derived.Lib.ConvBytes
import Derived.Laws.Slices
import Derived.WalkKit
import Derived.KernelRfl
import Derived.RowKit3
import Derived.Deep.LoopGhost
import Derived.Deep.QuietTactic
import Derived.BigQuiet
import Derived.WideLaws
import Derived.Deep.DeepCutAuto
import Derived.Deep.CutBlock
import Derived.Deep.RegionHeld3
import Derived.Laws.Rows
import Derived.Lib.AppendStr
import Derived.ArgAppend
import Derived.Laws.IdiomCopy
import Derived.OrdersHeld
import Derived.Laws.BitsLemmas
import Derived.RowKit
import Derived.Test.YtbbnlagdahickaaDoorMilli
import Derived.Test.YtbbnlagdahickaaDoorWWords
import Derived.Test.YtbbnlagdahickaaDoorWLast
import Derived.Test.YtbbnlagdahickaaDoorWTab
import Derived.Test.YtbbnlagdahickaaDoorWFour
import Derived.Test.YtbbnlagdahickaaDoorWQPut
import Derived.Test.YtbbnlagdahickaaDoorWApart
import Derived.Test.YtbbnlagdahickaaDoorWArr
import Derived.Test.YtbbnlagdahickaaDoorWZeros
import Derived.Test.YtbbnlagdahickaaDoorWFoot
import Derived.Test.YtbbnlagdahickaaDoorWKept
import Derived.Test.YtbbnlagdahickaaDoorWShare
import Derived.Test.YtbbnlagdahickaaDoorWN
import Derived.Test.YtbbnlagdahickaaDoorWFootNe
import Derived.Test.YtbbnlagdahickaaDoorWAt
import Derived.Test.YtbbnlagdahickaaDoorWEqStruct
import Derived.Test.YtbbnlagdahickaaDoorWRepsOne
import Derived.Test.YtbbnlagdahickaaDoorWInv
import Derived.Test.YtbbnlagdahickaaDoorWInvWords
import Derived.Test.YtbbnlagdahickaaDoorWGuard
import Derived.Test.YtbbnlagdahickaaDoorWNEv
import Derived.Test.YtbbnlagdahickaaDoorWMore
namespace Go.Proofs.YtbbnlagdahickaaDoor.PFnExactParseGoal
open Go.RowKit Go.Proofs.YtbbnlagdahickaaDoorW.PrintWords Go.Proofs.YtbbnlagdahickaaDoorW.PrintLast Go.Proofs.YtbbnlagdahickaaDoorW.PrintMore
attribute [local go_sem] max2_int min2_int max_two min_two max_three min_three max_four min_four   -- for this text's walks alone
set_option linter.unusedVariables false
set_option linter.unusedSimpArgs false



def errW : Option Int → Value
  | none => .nilIface
  | some c => .iface 0 (.int .i64 c)
theorem errW_none : errW none = .nilIface := rfl
theorem errW_some (c : Int) : errW (some c) = .iface 0 (.int .i64 c) := rfl

theorem info5 : (Tryd.prog.info? 5).map (fun i => (i.zero, i.size, i.bytes)) = some (some (.int .u8 0), 1, 1) := by kernel_rfl
theorem info9 : (Tryd.prog.info? 9).map (fun i => (i.zero, i.size, i.bytes)) = some (some (.string ⟨#[]⟩), 1, 16) := by kernel_rfl
-- the values' own types

end Go.Proofs.YtbbnlagdahickaaDoor.PFnExactParseGoal
