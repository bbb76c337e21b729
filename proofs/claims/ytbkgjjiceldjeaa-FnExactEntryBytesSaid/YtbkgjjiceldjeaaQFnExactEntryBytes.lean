/- What is known of the parameters of FnExactEntryBytes: each whole number is of its kind, each text and each list is no longer than one can be. And the one statement that is left. No conditions. -/
import Derived.Test.YtbkgjjiceldjeaaPFnExactEntryBytesx4
import Derived.Test.YtbkgjjiceldjeaaOpen
namespace Go.Proofs.Ytbkgjjiceldjeaa.PFnExactEntryBytes
open Go.RowKit Go.Proofs.YtbkgjjiceldjeaaW.PrintWords
set_option linter.unusedVariables false
def laws_FnExactEntryBytes.Pure : Prop := ∀ (a0_0 : Int) (a0_1 : Int) (a0_2 : ByteArray), ((Lit.int .i64 a0_0).wf = true) → ((Lit.int .i64 a0_1).wf = true) → (a0_2.size ≤ maxLen) → ∃ k, laws_FnExactEntryBytes.f k a0_0 a0_1 a0_2 = some true
end Go.Proofs.Ytbkgjjiceldjeaa.PFnExactEntryBytes
