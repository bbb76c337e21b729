/- What is known of the parameters of FnExactConsistencyProof: each whole number is of its kind, each text and each list is no longer than one can be. And the one statement that is left. No conditions. -/
import Derived.Test.YtamjkgbimcpfaaaPFnExactConsistencyProofx6
import Derived.Test.YtamjkgbimcpfaaaOpen
namespace Go.Proofs.Ytamjkgbimcpfaaa.PFnExactConsistencyProof
open Go.RowKit Go.Proofs.YtamjkgbimcpfaaaW.PrintWords
set_option linter.unusedVariables false
def laws_FnExactConsistencyProof.Pure : Prop := ∀ (l0 : (List ByteArray)) (a1 : Int), (Open.GL (fun y : ByteArray => y.size ≤ maxLen) l0) → ((Lit.int .i64 a1).wf = true) → ∃ k, laws_FnExactConsistencyProof.f k l0 a1 = some true
end Go.Proofs.Ytamjkgbimcpfaaa.PFnExactConsistencyProof
