/- What is known of the parameters of FnExactMapList: each whole number is of its kind, each text and each list is no longer than one can be. And the one statement that is left. No conditions. -/
import Derived.Test.YtjkdmegpjdfcaaaMFnExactMapListPx7
import Derived.Test.YtjkdmegpjdfcaaaMFnExactMapListOpen
namespace Go.Proofs.Ytjkdmegpjdfcaaa.PFnExactMapList
open Go.RowKit Go.Proofs.YtjkdmegpjdfcaaaW.PrintWords
set_option linter.unusedVariables false
inductive g24 : S24 → Prop
  | mk (x : S24) : (x.f0.size ≤ maxLen) → (x.f1.size ≤ maxLen) → ((Lit.int .i64 x.f2).wf = true) → x.f3.length ≤ maxLen → (∀ y ∈ x.f3, g24 y) → g24 x
def laws_FnExactMapList.Pure : Prop := ∀ (a0_0 : ByteArray) (a0_1 : ByteArray) (a0_2 : Int) (l0_3 : (List S24)), (a0_0.size ≤ maxLen) → (a0_1.size ≤ maxLen) → ((Lit.int .i64 a0_2).wf = true) → (Open.GL g24 l0_3) → ∃ k, laws_FnExactMapList.f k a0_0 a0_1 a0_2 l0_3 = some true
end Go.Proofs.Ytjkdmegpjdfcaaa.PFnExactMapList
