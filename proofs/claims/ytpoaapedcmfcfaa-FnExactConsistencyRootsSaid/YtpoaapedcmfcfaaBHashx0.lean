/- Written by a program (a session's own form of the print): plain functions with the answers of the Go functions, and the walks that show it. Lean checks it. -/
import Derived.Test.YtpoaapedcmfcfaaProg
import Derived.Below
import Derived.Deep.Draws
import Derived.Deep.AppendLies
import Derived.Maps.AppendAt
import Derived.OwnWalk
import Derived.Laws.BytesArg
import Derived.Laws.MakeOwn
import Derived.Laws.OwnMore
import Derived.Deep.OwnRows
import Derived.Tactics
import Derived.Lib.ConvBytes
import Derived.Laws.Slices
import Derived.WalkKit
import Derived.KernelRfl
import Derived.RowKit3
import Derived.Deep.LoopGhost
import Derived.Deep.QuietTactic
import Derived.BigQuiet
import Derived.WideLaws
import Derived.Deep.DeepCutAuto
import Derived.Deep.CutBlock
import Derived.Deep.RegionHeld3
import Derived.Laws.Rows
import Derived.Lib.AppendStr
import Derived.ArgAppend
import Derived.Laws.IdiomCopy
import Derived.OrdersHeld
import Derived.Laws.BitsLemmas
import Derived.RowKit
import Derived.Test.YtpoaapedcmfcfaaWWords
import Derived.Test.YtpoaapedcmfcfaaWLast
import Derived.Test.YtpoaapedcmfcfaaWTab
import Derived.Test.YtpoaapedcmfcfaaWFour
import Derived.Test.YtpoaapedcmfcfaaWQPut
import Derived.Test.YtpoaapedcmfcfaaWApart
import Derived.Test.YtpoaapedcmfcfaaWArr
import Derived.Test.YtpoaapedcmfcfaaWZeros
import Derived.Test.YtpoaapedcmfcfaaWFoot
import Derived.Test.YtpoaapedcmfcfaaWKept
import Derived.Test.YtpoaapedcmfcfaaWShare
import Derived.Test.YtpoaapedcmfcfaaWN
import Derived.Test.YtpoaapedcmfcfaaWFootNe
import Derived.Test.YtpoaapedcmfcfaaWAt
import Derived.Test.YtpoaapedcmfcfaaWEqStruct
import Derived.Test.YtpoaapedcmfcfaaWRepsOne
import Derived.Test.YtpoaapedcmfcfaaWInv
import Derived.Test.YtpoaapedcmfcfaaWInvWords
import Derived.Test.YtpoaapedcmfcfaaWGuard
import Derived.Test.YtpoaapedcmfcfaaWNEv
import Derived.Test.YtpoaapedcmfcfaaWMore
namespace Go.Proofs.Ytpoaapedcmfcfaa.BHash
open Go.RowKit Go.Proofs.YtpoaapedcmfcfaaW.PrintWords Go.Proofs.YtpoaapedcmfcfaaW.PrintLast Go.Proofs.YtpoaapedcmfcfaaW.PrintMore
attribute [local go_sem] max2_int min2_int max_two min_two max_three min_three max_four min_four   -- for this text's walks alone
set_option linter.unusedVariables false
set_option linter.unusedSimpArgs false



def errW : Option Int → Value
  | none => .nilIface
  | some c => .iface 0 (.int .i64 c)
theorem errW_none : errW none = .nilIface := rfl
theorem errW_some (c : Int) : errW (some c) = .iface 0 (.int .i64 c) := rfl

theorem info5 : (Try.prog.info? 5).map (fun i => (i.zero, i.size, i.bytes)) = some (some (.int .u8 0), 1, 1) := by kernel_rfl
theorem info85 : (Try.prog.info? 85).map (fun i => (i.zero, i.size, i.bytes)) = some (some (.int .u32 0), 1, 4) := by kernel_rfl
-- the values' own types

end Go.Proofs.Ytpoaapedcmfcfaa.BHash
