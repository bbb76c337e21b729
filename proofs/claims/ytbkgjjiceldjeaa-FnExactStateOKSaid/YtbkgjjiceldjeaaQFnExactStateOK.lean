/- What is known of the parameters of FnExactStateOK: each whole number is of its kind, each text and each list is no longer than one can be. And the one statement that is left. No conditions. -/
import Derived.Test.YtbkgjjiceldjeaaPFnExactStateOKx6
import Derived.Test.YtbkgjjiceldjeaaOpen
namespace Go.Proofs.Ytbkgjjiceldjeaa.PFnExactStateOK
open Go.RowKit Go.Proofs.YtbkgjjiceldjeaaW.PrintWords
set_option linter.unusedVariables false
def g46 (x : S46) : Prop := (Lit.int .i64 x.f0).wf = true ∧ (Lit.int .i64 x.f1).wf = true ∧ x.f2.size ≤ maxLen
def laws_FnExactStateOK.Pure : Prop := ∀ (a0_0 : Int) (a0_1 : Int) (l0_2 : (List S46)), ((Lit.int .i64 a0_0).wf = true) → ((Lit.int .i64 a0_1).wf = true) → (Open.GL g46 l0_2) → ∃ k, laws_FnExactStateOK.f k a0_0 a0_1 l0_2 = some true
end Go.Proofs.Ytbkgjjiceldjeaa.PFnExactStateOK
