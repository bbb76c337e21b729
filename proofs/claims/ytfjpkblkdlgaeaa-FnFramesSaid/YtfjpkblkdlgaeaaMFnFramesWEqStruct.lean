/- Words of the walks: what this claim reaches of them. No conditions. -/
import Derived.Test.YtfjpkblkdlgaeaaMFnFramesWWords
import Derived.Laws.StructEq
namespace Go.Proofs.YtfjpkblkdlgaeaaW.PrintWords
open Go.RowKit
section
variable {P : Program} {d : Nat} {xs ys : Array Value} {f : Field} {fs : List Field} {a b : Value} {r s : Bool} {w : World}
end
end Go.Proofs.YtfjpkblkdlgaeaaW.PrintWords

