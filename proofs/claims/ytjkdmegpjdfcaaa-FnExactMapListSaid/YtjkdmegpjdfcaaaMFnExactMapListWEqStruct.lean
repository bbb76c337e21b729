/- Words of the walks: what this claim reaches of them. No conditions. -/
import Derived.Test.YtjkdmegpjdfcaaaMFnExactMapListWWords
import Derived.Laws.StructEq
namespace Go.Proofs.YtjkdmegpjdfcaaaW.PrintWords
open Go.RowKit
section
variable {P : Program} {d : Nat} {xs ys : Array Value} {f : Field} {fs : List Field} {a b : Value} {r s : Bool} {w : World}
end
end Go.Proofs.YtjkdmegpjdfcaaaW.PrintWords

