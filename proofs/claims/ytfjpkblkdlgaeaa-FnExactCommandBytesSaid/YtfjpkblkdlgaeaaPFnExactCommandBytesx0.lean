/- Written by a program (a session's own form of the print): plain functions with the answers of the Go functions, and the walks that show it. Lean checks it. -/
import Derived.Test.YtfjpkblkdlgaeaaProg
import Derived.Below
import Derived.Deep.Draws
import Derived.Deep.AppendLies
import Derived.Maps.AppendAt
import Derived.OwnWalk
import Derived.Laws.BytesArg
import Derived.Laws.MakeOwn
import Derived.Laws.OwnMore
import Derived.Deep.OwnRows
import Derived.Tactics
import Derived.Lib.ConvBytes
import Derived.Laws.Slices
import Derived.WalkKit
import Derived.KernelRfl
import Derived.RowKit3
import Derived.Deep.LoopGhost
import Derived.Deep.QuietTactic
import Derived.BigQuiet
import Derived.WideLaws
import Derived.Deep.DeepCutAuto
import Derived.Deep.CutBlock
import Derived.Deep.RegionHeld3
import Derived.Laws.Rows
import Derived.Lib.AppendStr
import Derived.ArgAppend
import Derived.Laws.IdiomCopy
import Derived.OrdersHeld
import Derived.Laws.BitsLemmas
import Derived.RowKit
import Derived.Test.YtfjpkblkdlgaeaaUs
import Derived.Test.YtfjpkblkdlgaeaaWWords
import Derived.Test.YtfjpkblkdlgaeaaWLast
import Derived.Test.YtfjpkblkdlgaeaaWTab
import Derived.Test.YtfjpkblkdlgaeaaWFour
import Derived.Test.YtfjpkblkdlgaeaaWQPut
import Derived.Test.YtfjpkblkdlgaeaaWApart
import Derived.Test.YtfjpkblkdlgaeaaWArr
import Derived.Test.YtfjpkblkdlgaeaaWZeros
import Derived.Test.YtfjpkblkdlgaeaaWFoot
import Derived.Test.YtfjpkblkdlgaeaaWKept
import Derived.Test.YtfjpkblkdlgaeaaWShare
import Derived.Test.YtfjpkblkdlgaeaaWN
import Derived.Test.YtfjpkblkdlgaeaaWFootNe
import Derived.Test.YtfjpkblkdlgaeaaWAt
import Derived.Test.YtfjpkblkdlgaeaaWEqStruct
import Derived.Test.YtfjpkblkdlgaeaaWRepsOne
import Derived.Test.YtfjpkblkdlgaeaaWInv
import Derived.Test.YtfjpkblkdlgaeaaWInvWords
import Derived.Test.YtfjpkblkdlgaeaaWGuard
import Derived.Test.YtfjpkblkdlgaeaaWNEv
import Derived.Test.YtfjpkblkdlgaeaaWMore
namespace Go.Proofs.Ytfjpkblkdlgaeaa.PFnExactCommandBytes
open Go.RowKit Go.Proofs.YtfjpkblkdlgaeaaW.PrintWords Go.Proofs.YtfjpkblkdlgaeaaW.PrintLast Go.Proofs.YtfjpkblkdlgaeaaW.PrintMore
attribute [local go_sem] max2_int min2_int max_two min_two max_three min_three max_four min_four   -- for this text's walks alone
set_option linter.unusedVariables false
set_option linter.unusedSimpArgs false



def errW : Option Int → Value
  | none => .nilIface
  | some c => .iface 0 (.int .i64 c)
theorem errW_none : errW none = .nilIface := rfl
theorem errW_some (c : Int) : errW (some c) = .iface 0 (.int .i64 c) := rfl

theorem info5 : (Try.prog.info? 5).map (fun i => (i.zero, i.size, i.bytes)) = some (some (.int .u8 0), 1, 1) := by kernel_rfl
-- the values' own types

end Go.Proofs.Ytfjpkblkdlgaeaa.PFnExactCommandBytes
