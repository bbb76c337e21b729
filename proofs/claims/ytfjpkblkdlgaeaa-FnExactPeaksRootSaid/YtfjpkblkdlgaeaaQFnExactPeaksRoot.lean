/- What is known of the parameters of FnExactPeaksRoot: each whole number is of its kind, each text and each list is no longer than one can be. And the one statement that is left. No conditions. -/
import Derived.Test.YtfjpkblkdlgaeaaPFnExactPeaksRootx5
import Derived.Test.YtfjpkblkdlgaeaaOpen
namespace Go.Proofs.Ytfjpkblkdlgaeaa.PFnExactPeaksRoot
open Go.RowKit Go.Proofs.YtfjpkblkdlgaeaaW.PrintWords
set_option linter.unusedVariables false
def g62 (x : S62) : Prop := (Lit.int .i64 x.f0).wf = true ∧ x.f1.size ≤ maxLen
def laws_FnExactPeaksRoot.Pure : Prop := ∀ (l0 : (List S62)), (Open.GL g62 l0) → ∃ k, laws_FnExactPeaksRoot.f k l0 = some true
end Go.Proofs.Ytfjpkblkdlgaeaa.PFnExactPeaksRoot
