/- What is known of the parameters of FnExactFrameBytes: each whole number is of its kind, each text and each list is no longer than one can be. And the one statement that is left. No conditions. -/
import Derived.Test.YtbkgjjiceldjeaaPFnExactFrameBytesx3
import Derived.Test.YtbkgjjiceldjeaaOpen
namespace Go.Proofs.Ytbkgjjiceldjeaa.PFnExactFrameBytes
open Go.RowKit Go.Proofs.YtbkgjjiceldjeaaW.PrintWords
set_option linter.unusedVariables false
def laws_FnExactFrameBytes.Pure : Prop := ∀ (l0 : (List Int)), (Open.GL (fun y : Int => (Lit.int .u8 y).wf = true) l0) → ∃ k, laws_FnExactFrameBytes.f k l0 = some true
end Go.Proofs.Ytbkgjjiceldjeaa.PFnExactFrameBytes
