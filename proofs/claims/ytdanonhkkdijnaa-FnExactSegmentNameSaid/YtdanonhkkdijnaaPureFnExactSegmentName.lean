/- SegmentName answers as the reference's at every number: the plain form. No conditions. -/
import Derived.Test.YtdanonhkkdijnaaPFnExactSegmentNamex1
namespace Go.Proofs.Ytdanonhkkdijnaa.Pure
open Go.RowKit Go.Proofs.Ytdanonhkkdijnaa.PFnExactSegmentName Go.Proofs.YtdanonhkkdijnaaW.PrintWords Go.Proofs.YtdanonhkkdijnaaW.PrintLast
theorem segmentName_in : ∀ n : Fin 100, laws_FnExactSegmentName.f 3 ((n.val : Nat) : Int) = some true := by decide +kernel
theorem FnExactSegmentName : laws_FnExactSegmentName.Pure := by
  intro a0 _
  by_cases h : 0 ≤ a0 ∧ a0 ≤ 99
  · obtain ⟨h0, h1⟩ := h
    have := segmentName_in ⟨a0.toNat, by omega⟩
    rw [show (((⟨a0.toNat, by omega⟩ : Fin 100).val : Nat) : Int) = a0 by simp; omega] at this
    exact ⟨3, this⟩
  · refine ⟨3, ?_⟩
    unfold laws_FnExactSegmentName.f spec_SegmentName.f impl_SegmentName.f spec_l01In.f impl_within.f
    by_cases h0 : 1 ≤ a0
    · simp [h0, show ¬ (a0 ≤ 99) by omega]
    · simp [h0]
end Go.Proofs.Ytdanonhkkdijnaa.Pure
