/- Words of the walks: what this claim reaches of them. No conditions. -/
import Derived.Test.YtjkdmegpjdfcaaaMFnExactMapListWInv
import Derived.Test.YtjkdmegpjdfcaaaMFnExactMapListWFootNe
namespace Go.Proofs.YtjkdmegpjdfcaaaW.PrintWords
open Go.RowKit
end Go.Proofs.YtjkdmegpjdfcaaaW.PrintWords
namespace Go.Proofs.YtjkdmegpjdfcaaaW.PrintLast
section
variable {ops : Array Oper} {a : Act} {o og : Oper} {g : Nat} {t : Tmp} {u : Bool}
end
end Go.Proofs.YtjkdmegpjdfcaaaW.PrintLast

