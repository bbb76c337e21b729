/- Written by a program (a session's own form of the print): plain functions with the answers of the Go functions, and the walks that show it. Lean checks it. -/
import Derived.Test.YtbkgjjiceldjeaaProg
import Derived.Below
import Derived.Deep.Draws
import Derived.Deep.AppendLies
import Derived.Maps.AppendAt
import Derived.OwnWalk
import Derived.Laws.BytesArg
import Derived.Laws.MakeOwn
import Derived.Laws.OwnMore
import Derived.Deep.OwnRows
import Derived.Tactics
import Derived.Lib.ConvBytes
import Derived.Laws.Slices
import Derived.WalkKit
import Derived.KernelRfl
import Derived.RowKit3
import Derived.Deep.LoopGhost
import Derived.Deep.QuietTactic
import Derived.BigQuiet
import Derived.WideLaws
import Derived.Deep.DeepCutAuto
import Derived.Deep.CutBlock
import Derived.Deep.RegionHeld3
import Derived.Laws.Rows
import Derived.Lib.AppendStr
import Derived.ArgAppend
import Derived.Laws.IdiomCopy
import Derived.OrdersHeld
import Derived.Laws.BitsLemmas
import Derived.RowKit
import Derived.Test.YtbkgjjiceldjeaaWWords
import Derived.Test.YtbkgjjiceldjeaaWLast
import Derived.Test.YtbkgjjiceldjeaaWTab
import Derived.Test.YtbkgjjiceldjeaaWFour
import Derived.Test.YtbkgjjiceldjeaaWQPut
import Derived.Test.YtbkgjjiceldjeaaWApart
import Derived.Test.YtbkgjjiceldjeaaWArr
import Derived.Test.YtbkgjjiceldjeaaWZeros
import Derived.Test.YtbkgjjiceldjeaaWFoot
import Derived.Test.YtbkgjjiceldjeaaWKept
import Derived.Test.YtbkgjjiceldjeaaWShare
import Derived.Test.YtbkgjjiceldjeaaWN
import Derived.Test.YtbkgjjiceldjeaaWFootNe
import Derived.Test.YtbkgjjiceldjeaaWAt
import Derived.Test.YtbkgjjiceldjeaaWEqStruct
import Derived.Test.YtbkgjjiceldjeaaWRepsOne
import Derived.Test.YtbkgjjiceldjeaaWInv
import Derived.Test.YtbkgjjiceldjeaaWInvWords
import Derived.Test.YtbkgjjiceldjeaaWGuard
import Derived.Test.YtbkgjjiceldjeaaWNEv
import Derived.Test.YtbkgjjiceldjeaaWMore
namespace Go.Proofs.Ytbkgjjiceldjeaa.PFnExactFrameBytes
open Go.RowKit Go.Proofs.YtbkgjjiceldjeaaW.PrintWords Go.Proofs.YtbkgjjiceldjeaaW.PrintLast Go.Proofs.YtbkgjjiceldjeaaW.PrintMore
attribute [local go_sem] max2_int min2_int max_two min_two max_three min_three max_four min_four   -- for this text's walks alone
set_option linter.unusedVariables false
set_option linter.unusedSimpArgs false



def errW : Option Int → Value
  | none => .nilIface
  | some c => .iface 0 (.int .i64 c)
theorem errW_none : errW none = .nilIface := rfl
theorem errW_some (c : Int) : errW (some c) = .iface 0 (.int .i64 c) := rfl

theorem info5 : (Try.prog.info? 5).map (fun i => (i.zero, i.size, i.bytes)) = some (some (.int .u8 0), 1, 1) := by kernel_rfl
-- the values' own types

end Go.Proofs.Ytbkgjjiceldjeaa.PFnExactFrameBytes
