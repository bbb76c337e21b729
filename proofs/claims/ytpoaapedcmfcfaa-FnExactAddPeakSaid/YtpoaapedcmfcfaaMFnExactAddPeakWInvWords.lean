/- Words of the walks: what this claim reaches of them. No conditions. -/
import Derived.Test.YtpoaapedcmfcfaaMFnExactAddPeakWInv
import Derived.Test.YtpoaapedcmfcfaaMFnExactAddPeakWFootNe
namespace Go.Proofs.YtpoaapedcmfcfaaW.PrintWords
open Go.RowKit
end Go.Proofs.YtpoaapedcmfcfaaW.PrintWords
namespace Go.Proofs.YtpoaapedcmfcfaaW.PrintLast
section
variable {ops : Array Oper} {a : Act} {o og : Oper} {g : Nat} {t : Tmp} {u : Bool}
end
end Go.Proofs.YtpoaapedcmfcfaaW.PrintLast

