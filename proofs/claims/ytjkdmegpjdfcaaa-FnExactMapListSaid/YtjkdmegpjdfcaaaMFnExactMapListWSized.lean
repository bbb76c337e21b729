/- Words of the walks: what this claim reaches of them. No conditions. -/
import Derived.SizedLaws
import Derived.ChangeSlices
namespace Go.Proofs.YtjkdmegpjdfcaaaW.PrintWords
open Go.ChangeShapes Go.WideShapes
end Go.Proofs.YtjkdmegpjdfcaaaW.PrintWords

