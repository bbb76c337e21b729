/- CodeWord answers as the reference's at every number: the plain form. No conditions. -/
import Derived.Test.YtdanonhkkdijnaaPFnExactCodeWordx1
namespace Go.Proofs.Ytdanonhkkdijnaa.Pure
open Go.RowKit Go.Proofs.Ytdanonhkkdijnaa.PFnExactCodeWord Go.Proofs.YtdanonhkkdijnaaW.PrintWords Go.Proofs.YtdanonhkkdijnaaW.PrintLast
theorem codeWord_in : ∀ n : Fin 20, laws_FnExactCodeWord.f ((n.val : Nat) : Int) = some true := by decide +kernel
theorem FnExactCodeWord : laws_FnExactCodeWord.Pure := by
  intro a0 _
  by_cases h : 0 ≤ a0 ∧ a0 ≤ 19
  · obtain ⟨h0, h1⟩ := h
    have := codeWord_in ⟨a0.toNat, by omega⟩
    rw [show (((⟨a0.toNat, by omega⟩ : Fin 20).val : Nat) : Int) = a0 by simp; omega] at this
    exact this
  · unfold laws_FnExactCodeWord.f spec_CodeWord.f impl_CodeWord.f impl_within.f
    by_cases h0 : a0 < 0
    · simp [h0, show ¬ (0 ≤ a0) by omega]
    · simp [h0, show ¬ (a0 ≤ 19) by omega, show (20 : Int) ≤ a0 by omega, show 0 ≤ a0 by omega]
end Go.Proofs.Ytdanonhkkdijnaa.Pure
