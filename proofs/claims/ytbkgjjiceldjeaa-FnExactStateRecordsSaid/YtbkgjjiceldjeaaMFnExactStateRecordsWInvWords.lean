/- Words of the walks: what this claim reaches of them. No conditions. -/
import Derived.Test.YtbkgjjiceldjeaaMFnExactStateRecordsWInv
import Derived.Test.YtbkgjjiceldjeaaMFnExactStateRecordsWFootNe
namespace Go.Proofs.YtbkgjjiceldjeaaW.PrintWords
open Go.RowKit
end Go.Proofs.YtbkgjjiceldjeaaW.PrintWords
namespace Go.Proofs.YtbkgjjiceldjeaaW.PrintLast
section
variable {ops : Array Oper} {a : Act} {o og : Oper} {g : Nat} {t : Tmp} {u : Bool}
end
end Go.Proofs.YtbkgjjiceldjeaaW.PrintLast

