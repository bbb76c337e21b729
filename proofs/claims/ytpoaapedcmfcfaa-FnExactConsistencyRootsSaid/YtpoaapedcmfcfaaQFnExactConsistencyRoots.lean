/- What is known of the parameters of FnExactConsistencyRoots: each whole number is of its kind, each text and each list is no longer than one can be. And the one statement that is left. No conditions. -/
import Derived.Test.YtpoaapedcmfcfaaPFnExactConsistencyRootsx3
import Derived.Test.YtpoaapedcmfcfaaOpen
namespace Go.Proofs.Ytpoaapedcmfcfaa.PFnExactConsistencyRoots
open Go.RowKit Go.Proofs.YtpoaapedcmfcfaaW.PrintWords
set_option linter.unusedVariables false
def laws_FnExactConsistencyRoots.Pure : Prop := ∀ (a0 : Int) (a1 : Int) (a2 : ByteArray) (l3 : (List ByteArray)), ((Lit.int .i64 a0).wf = true) → ((Lit.int .i64 a1).wf = true) → (a2.size ≤ maxLen) → (Open.GL (fun y : ByteArray => y.size ≤ maxLen) l3) → ∃ k, laws_FnExactConsistencyRoots.f k a0 a1 a2 l3 = some true
end Go.Proofs.Ytpoaapedcmfcfaa.PFnExactConsistencyRoots
