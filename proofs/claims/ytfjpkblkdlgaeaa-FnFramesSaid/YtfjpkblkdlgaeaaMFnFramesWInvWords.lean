/- Words of the walks: what this claim reaches of them. No conditions. -/
import Derived.Test.YtfjpkblkdlgaeaaMFnFramesWInv
import Derived.Test.YtfjpkblkdlgaeaaMFnFramesWFootNe
namespace Go.Proofs.YtfjpkblkdlgaeaaW.PrintWords
open Go.RowKit
end Go.Proofs.YtfjpkblkdlgaeaaW.PrintWords
namespace Go.Proofs.YtfjpkblkdlgaeaaW.PrintLast
section
variable {ops : Array Oper} {a : Act} {o og : Oper} {g : Nat} {t : Tmp} {u : Bool}
end
end Go.Proofs.YtfjpkblkdlgaeaaW.PrintLast

