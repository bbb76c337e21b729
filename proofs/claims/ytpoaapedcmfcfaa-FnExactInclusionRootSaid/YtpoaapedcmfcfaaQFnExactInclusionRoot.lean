/- What is known of the parameters of FnExactInclusionRoot: each whole number is of its kind, each text and each list is no longer than one can be. And the one statement that is left. No conditions. -/
import Derived.Test.YtpoaapedcmfcfaaPFnExactInclusionRootx3
import Derived.Test.YtpoaapedcmfcfaaOpen
namespace Go.Proofs.Ytpoaapedcmfcfaa.PFnExactInclusionRoot
open Go.RowKit Go.Proofs.YtpoaapedcmfcfaaW.PrintWords
set_option linter.unusedVariables false
def laws_FnExactInclusionRoot.Pure : Prop := ∀ (a0 : ByteArray) (a1 : Int) (a2 : Int) (l3 : (List ByteArray)), (a0.size ≤ maxLen) → ((Lit.int .i64 a1).wf = true) → ((Lit.int .i64 a2).wf = true) → (Open.GL (fun y : ByteArray => y.size ≤ maxLen) l3) → ∃ k, laws_FnExactInclusionRoot.f k a0 a1 a2 l3 = some true
end Go.Proofs.Ytpoaapedcmfcfaa.PFnExactInclusionRoot
