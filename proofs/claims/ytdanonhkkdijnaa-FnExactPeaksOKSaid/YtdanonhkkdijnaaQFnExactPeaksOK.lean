/- What is known of the parameters of FnExactPeaksOK: each whole number is of its kind, each text and each list is no longer than one can be. And the one statement that is left. No conditions. -/
import Derived.Test.YtdanonhkkdijnaaPFnExactPeaksOKx3
import Derived.Test.YtdanonhkkdijnaaOpen
namespace Go.Proofs.Ytdanonhkkdijnaa.PFnExactPeaksOK
open Go.RowKit Go.Proofs.YtdanonhkkdijnaaW.PrintWords
set_option linter.unusedVariables false
def g70 (x : S70) : Prop := (Lit.int .i64 x.f0).wf = true ∧ x.f1.size ≤ maxLen
def laws_FnExactPeaksOK.Pure : Prop := ∀ (l0 : (List S70)), (Open.GL g70 l0) → ∃ k, laws_FnExactPeaksOK.f k l0 = some true
end Go.Proofs.Ytdanonhkkdijnaa.PFnExactPeaksOK
