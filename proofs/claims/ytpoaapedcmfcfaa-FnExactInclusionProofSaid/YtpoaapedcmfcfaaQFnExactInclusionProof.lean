/- What is known of the parameters of FnExactInclusionProof: each whole number is of its kind, each text and each list is no longer than one can be. And the one statement that is left. No conditions. -/
import Derived.Test.YtpoaapedcmfcfaaPFnExactInclusionProofx5
import Derived.Test.YtpoaapedcmfcfaaOpen
namespace Go.Proofs.Ytpoaapedcmfcfaa.PFnExactInclusionProof
open Go.RowKit Go.Proofs.YtpoaapedcmfcfaaW.PrintWords
set_option linter.unusedVariables false
def laws_FnExactInclusionProof.Pure : Prop := ∀ (l0 : (List ByteArray)) (a1 : Int), (Open.GL (fun y : ByteArray => y.size ≤ maxLen) l0) → ((Lit.int .i64 a1).wf = true) → ∃ k, laws_FnExactInclusionProof.f k l0 a1 = some true
end Go.Proofs.Ytpoaapedcmfcfaa.PFnExactInclusionProof
