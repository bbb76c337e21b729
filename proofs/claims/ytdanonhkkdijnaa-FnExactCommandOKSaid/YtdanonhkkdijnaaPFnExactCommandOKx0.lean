/- Written by a program (a session's own form of the print): plain functions with the answers of the Go functions, and the walks that show it. Lean checks it. -/
import Derived.Test.YtdanonhkkdijnaaProg
import Derived.Below
import Derived.Deep.Draws
import Derived.Deep.AppendLies
import Derived.Maps.AppendAt
import Derived.OwnWalk
import Derived.Laws.BytesArg
import Derived.Laws.MakeOwn
import Derived.Laws.OwnMore
import Derived.Deep.OwnRows
import Derived.Tactics
import Derived.Lib.ConvBytes
import Derived.Laws.Slices
import Derived.WalkKit
import Derived.KernelRfl
import Derived.RowKit3
import Derived.Deep.LoopGhost
import Derived.Deep.QuietTactic
import Derived.BigQuiet
import Derived.WideLaws
import Derived.Deep.DeepCutAuto
import Derived.Deep.CutBlock
import Derived.Deep.RegionHeld3
import Derived.Laws.Rows
import Derived.Lib.AppendStr
import Derived.ArgAppend
import Derived.Laws.IdiomCopy
import Derived.OrdersHeld
import Derived.Laws.BitsLemmas
import Derived.RowKit
import Derived.Test.YtdanonhkkdijnaaWWords
import Derived.Test.YtdanonhkkdijnaaWLast
import Derived.Test.YtdanonhkkdijnaaWTab
import Derived.Test.YtdanonhkkdijnaaWFour
import Derived.Test.YtdanonhkkdijnaaWQPut
import Derived.Test.YtdanonhkkdijnaaWApart
import Derived.Test.YtdanonhkkdijnaaWArr
import Derived.Test.YtdanonhkkdijnaaWZeros
import Derived.Test.YtdanonhkkdijnaaWFoot
import Derived.Test.YtdanonhkkdijnaaWKept
import Derived.Test.YtdanonhkkdijnaaWShare
import Derived.Test.YtdanonhkkdijnaaWN
import Derived.Test.YtdanonhkkdijnaaWFootNe
import Derived.Test.YtdanonhkkdijnaaWAt
import Derived.Test.YtdanonhkkdijnaaWEqStruct
import Derived.Test.YtdanonhkkdijnaaWRepsOne
import Derived.Test.YtdanonhkkdijnaaWInv
import Derived.Test.YtdanonhkkdijnaaWInvWords
import Derived.Test.YtdanonhkkdijnaaWGuard
import Derived.Test.YtdanonhkkdijnaaWNEv
import Derived.Test.YtdanonhkkdijnaaWMore
namespace Go.Proofs.Ytdanonhkkdijnaa.PFnExactCommandOK
open Go.RowKit Go.Proofs.YtdanonhkkdijnaaW.PrintWords Go.Proofs.YtdanonhkkdijnaaW.PrintLast Go.Proofs.YtdanonhkkdijnaaW.PrintMore
attribute [local go_sem] max2_int min2_int max_two min_two max_three min_three max_four min_four   -- for this text's walks alone
set_option linter.unusedVariables false
set_option linter.unusedSimpArgs false



def errW : Option Int → Value
  | none => .nilIface
  | some c => .iface 0 (.int .i64 c)
theorem errW_none : errW none = .nilIface := rfl
theorem errW_some (c : Int) : errW (some c) = .iface 0 (.int .i64 c) := rfl

-- the values' own types

end Go.Proofs.Ytdanonhkkdijnaa.PFnExactCommandOK
