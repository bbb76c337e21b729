/- Words of the walks: what this claim reaches of them. No conditions. -/
import Derived.Test.YtjkdmegpjdfcaaaMFnExactMapListWTab
namespace Go.Proofs.YtjkdmegpjdfcaaaW.PrintLast
section
variable {P : Program} {ops : Array Oper} {Q : Exit → Act → World → Prop} {md : Region.Mode} {S : World → Prop} {ds : List Nat} {T : Bool × List (List Nat × List Nat)}
end
end Go.Proofs.YtjkdmegpjdfcaaaW.PrintLast

