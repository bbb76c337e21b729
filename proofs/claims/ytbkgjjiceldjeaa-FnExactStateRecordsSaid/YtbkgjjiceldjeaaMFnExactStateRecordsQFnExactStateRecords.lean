/- What is known of the parameters of FnExactStateRecords: each whole number is of its kind, each text and each list is no longer than one can be. And the one statement that is left. No conditions. -/
import Derived.Test.YtbkgjjiceldjeaaMFnExactStateRecordsPx13
import Derived.Test.YtbkgjjiceldjeaaMFnExactStateRecordsOpen
namespace Go.Proofs.Ytbkgjjiceldjeaa.PFnExactStateRecords
open Go.RowKit Go.Proofs.YtbkgjjiceldjeaaW.PrintWords
set_option linter.unusedVariables false
def g46 (x : S46) : Prop := (Lit.int .i64 x.f0).wf = true ∧ (Lit.int .i64 x.f1).wf = true ∧ x.f2.size ≤ maxLen
def laws_FnExactStateRecords.Pure : Prop := ∀ (a0_0 : Int) (a0_1 : Int) (l0_2 : (List S46)) (a1_0 : Int) (a1_1 : Int) (l1_2 : (List S46)), ((Lit.int .i64 a0_0).wf = true) → ((Lit.int .i64 a0_1).wf = true) → (Open.GL g46 l0_2) → ((Lit.int .i64 a1_0).wf = true) → ((Lit.int .i64 a1_1).wf = true) → (Open.GL g46 l1_2) → ∃ k, laws_FnExactStateRecords.f k a0_0 a0_1 l0_2 a1_0 a1_1 l1_2 = some true
end Go.Proofs.Ytbkgjjiceldjeaa.PFnExactStateRecords
