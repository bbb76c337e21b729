/- Words of the walks: what this claim reaches of them. No conditions. -/
import Derived.Test.YtjkdmegpjdfcaaaMFnExactMapListWTab
namespace Go.Proofs.YtjkdmegpjdfcaaaW.PrintLast
section
variable {P : Program} {ops : Array Oper} {Q : Exit → Act → World → Prop} {md : Region.Mode} {T : Bool × List (List Nat × List Nat)} {B : List Nat} {O : List Nat} {b : Nat → Bool} {i j n : Nat}
end
end Go.Proofs.YtjkdmegpjdfcaaaW.PrintLast

