/- What is known of the parameters of FnExactWalPlan: each whole number is of its kind, each text and each list is no longer than one can be. And the one statement that is left. No conditions. -/
import Derived.Test.YtpdhfoegbannkaaDoorMFnExactWalPlanPx19
import Derived.Test.YtpdhfoegbannkaaDoorMFnExactWalPlanOpen
namespace Go.Proofs.YtpdhfoegbannkaaDoor.PFnExactWalPlan
open Go.RowKit Go.Proofs.YtpdhfoegbannkaaDoorW.PrintWords
set_option linter.unusedVariables false
def g67 (x : S67) : Prop := x.f0.size ≤ maxLen ∧ x.f1.size ≤ maxLen ∧ (Lit.int .i64 x.f2).wf = true
def laws_FnExactWalPlan.Pure : Prop := ∀ (a0_0 : Int) (l0_1 : (List S67)) (a1 : ByteArray), ((Lit.int .i64 a0_0).wf = true) → (Open.GL g67 l0_1) → (a1.size ≤ maxLen) → ∃ k, laws_FnExactWalPlan.f k a0_0 l0_1 a1 = some true
end Go.Proofs.YtpdhfoegbannkaaDoor.PFnExactWalPlan
