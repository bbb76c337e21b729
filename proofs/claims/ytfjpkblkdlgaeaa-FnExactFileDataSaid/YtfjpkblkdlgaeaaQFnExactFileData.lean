/- What is known of the parameters of FnExactFileData: each whole number is of its kind, each text and each list is no longer than one can be. And the one statement that is left. No conditions. -/
import Derived.Test.YtfjpkblkdlgaeaaPFnExactFileDatax7
import Derived.Test.YtfjpkblkdlgaeaaOpen
namespace Go.Proofs.Ytfjpkblkdlgaeaa.PFnExactFileData
open Go.RowKit Go.Proofs.YtfjpkblkdlgaeaaW.PrintWords
set_option linter.unusedVariables false
def g105 (x : S105) : Prop := x.f0.size ≤ maxLen ∧ x.f1.size ≤ maxLen ∧ (Lit.int .i64 x.f2).wf = true
def laws_FnExactFileData.Pure : Prop := ∀ (a0_0 : Int) (l0_1 : (List S105)) (a1 : ByteArray), ((Lit.int .i64 a0_0).wf = true) → (Open.GL g105 l0_1) → (a1.size ≤ maxLen) → ∃ k, laws_FnExactFileData.f k a0_0 l0_1 a1 = some true
end Go.Proofs.Ytfjpkblkdlgaeaa.PFnExactFileData
