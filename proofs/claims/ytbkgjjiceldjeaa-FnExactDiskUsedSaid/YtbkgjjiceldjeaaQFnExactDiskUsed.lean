/- What is known of the parameters of FnExactDiskUsed: each whole number is of its kind, each text and each list is no longer than one can be. And the one statement that is left. No conditions. -/
import Derived.Test.YtbkgjjiceldjeaaPFnExactDiskUsedx6
import Derived.Test.YtbkgjjiceldjeaaOpen
namespace Go.Proofs.Ytbkgjjiceldjeaa.PFnExactDiskUsed
open Go.RowKit Go.Proofs.YtbkgjjiceldjeaaW.PrintWords
set_option linter.unusedVariables false
def g130 (x : S130) : Prop := x.f0.size ≤ maxLen ∧ x.f1.size ≤ maxLen ∧ (Lit.int .i64 x.f2).wf = true
def laws_FnExactDiskUsed.Pure : Prop := ∀ (a0_0 : Int) (l0_1 : (List S130)), ((Lit.int .i64 a0_0).wf = true) → (Open.GL g130 l0_1) → ∃ k, laws_FnExactDiskUsed.f k a0_0 l0_1 = some true
end Go.Proofs.Ytbkgjjiceldjeaa.PFnExactDiskUsed
