/- What is known of the parameters of FnExactCommandBytes: each whole number is of its kind, each text and each list is no longer than one can be. And the one statement that is left. No conditions. -/
import Derived.Test.YtfjpkblkdlgaeaaPFnExactCommandBytesx5
import Derived.Test.YtfjpkblkdlgaeaaOpen
namespace Go.Proofs.Ytfjpkblkdlgaeaa.PFnExactCommandBytes
open Go.RowKit Go.Proofs.YtfjpkblkdlgaeaaW.PrintWords
set_option linter.unusedVariables false
def laws_FnExactCommandBytes.Pure : Prop := ∀ (a0_0 : Int) (a0_1 : Int) (a0_2 : Int) (a0_3 : ByteArray) (a0_4 : ByteArray), ((Lit.int .i64 a0_0).wf = true) → ((Lit.int .i64 a0_1).wf = true) → ((Lit.int .i64 a0_2).wf = true) → (a0_3.size ≤ maxLen) → (a0_4.size ≤ maxLen) → ∃ k, laws_FnExactCommandBytes.f k a0_0 a0_1 a0_2 a0_3 a0_4 = some true
end Go.Proofs.Ytfjpkblkdlgaeaa.PFnExactCommandBytes
