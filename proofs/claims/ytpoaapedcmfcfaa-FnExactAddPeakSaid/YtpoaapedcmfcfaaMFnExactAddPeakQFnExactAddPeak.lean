/- What is known of the parameters of FnExactAddPeak: each whole number is of its kind, each text and each list is no longer than one can be. And the one statement that is left. No conditions. -/
import Derived.Test.YtpoaapedcmfcfaaMFnExactAddPeakPx9
import Derived.Test.YtpoaapedcmfcfaaMFnExactAddPeakOpen
namespace Go.Proofs.Ytpoaapedcmfcfaa.PFnExactAddPeak
open Go.RowKit Go.Proofs.YtpoaapedcmfcfaaW.PrintWords
set_option linter.unusedVariables false
def g64 (x : S64) : Prop := (Lit.int .i64 x.f0).wf = true ∧ x.f1.size ≤ maxLen
def laws_FnExactAddPeak.Pure : Prop := ∀ (l0 : (List S64)) (a1 : ByteArray), (Open.GL g64 l0) → (a1.size ≤ maxLen) → ∃ k, laws_FnExactAddPeak.f k l0 a1 = some true
end Go.Proofs.Ytpoaapedcmfcfaa.PFnExactAddPeak
