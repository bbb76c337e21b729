/- What is known of the parameters of FnExactTreeHash: each whole number is of its kind, each text and each list is no longer than one can be. And the one statement that is left. No conditions. -/
import Derived.Test.YtpoaapedcmfcfaaPFnExactTreeHashx3
import Derived.Test.YtpoaapedcmfcfaaOpen
namespace Go.Proofs.Ytpoaapedcmfcfaa.PFnExactTreeHash
open Go.RowKit Go.Proofs.YtpoaapedcmfcfaaW.PrintWords
set_option linter.unusedVariables false
def laws_FnExactTreeHash.Pure : Prop := ∀ (l0 : (List ByteArray)), (Open.GL (fun y : ByteArray => y.size ≤ maxLen) l0) → ∃ k, laws_FnExactTreeHash.f k l0 = some true
end Go.Proofs.Ytpoaapedcmfcfaa.PFnExactTreeHash
