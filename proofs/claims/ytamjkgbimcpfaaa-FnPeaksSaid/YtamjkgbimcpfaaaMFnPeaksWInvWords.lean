/- Words of the walks: what this claim reaches of them. No conditions. -/
import Derived.Test.YtamjkgbimcpfaaaMFnPeaksWInv
import Derived.Test.YtamjkgbimcpfaaaMFnPeaksWFootNe
namespace Go.Proofs.YtamjkgbimcpfaaaW.PrintWords
open Go.RowKit
end Go.Proofs.YtamjkgbimcpfaaaW.PrintWords
namespace Go.Proofs.YtamjkgbimcpfaaaW.PrintLast
section
variable {ops : Array Oper} {a : Act} {o og : Oper} {g : Nat} {t : Tmp} {u : Bool}
end
end Go.Proofs.YtamjkgbimcpfaaaW.PrintLast

