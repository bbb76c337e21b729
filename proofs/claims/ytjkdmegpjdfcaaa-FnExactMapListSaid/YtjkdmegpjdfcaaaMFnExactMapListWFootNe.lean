/- Words of the walks: what this claim reaches of them. No conditions. -/
import Derived.Test.YtjkdmegpjdfcaaaMFnExactMapListWN
namespace Go.Proofs.YtjkdmegpjdfcaaaW.PrintWords
open Go.RowKit
namespace Kd
section
variable {α : Type} {d : Kd α} {W : World} {g n : Nat} {S ok : Nat → Prop} {A : Option Addr} {ad : Addr} {xs : List α}
end
end Kd
end Go.Proofs.YtjkdmegpjdfcaaaW.PrintWords

