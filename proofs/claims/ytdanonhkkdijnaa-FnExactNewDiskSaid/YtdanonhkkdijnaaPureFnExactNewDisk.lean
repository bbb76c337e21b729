/- NewDisk answers as the reference's at every number, and its answer is its own: the plain form. No conditions. -/
import Derived.Test.YtdanonhkkdijnaaPFnExactNewDiskx3
namespace Go.Proofs.Ytdanonhkkdijnaa.Pure
open Go.RowKit Go.Proofs.Ytdanonhkkdijnaa.PFnExactNewDisk Go.Proofs.YtdanonhkkdijnaaW.PrintWords Go.Proofs.YtdanonhkkdijnaaW.PrintLast
theorem FnExactNewDisk : laws_FnExactNewDisk.Pure := by
  intro a0 _
  refine ⟨5, ?_⟩
  by_cases h : 0 ≤ a0 ∧ a0 ≤ 3000
  · simp [laws_FnExactNewDisk.f, spec_NewDisk.f, impl_NewDisk.f, spec_l01In.f, impl_within.f, laws_eqDisk.f, laws_eqFileS.f, laws_eqFileS.l0, laws_FnExactNewDisk.j0, laws_FnExactNewDisk.j1, laws_markDisk.f, laws_markFileS.f, laws_markFileS.l0, laws_heldDisk.f, laws_heldFileS.f, laws_heldFileS.l0, h.1, h.2]
  · by_cases h0 : 0 ≤ a0
    · have h1 : ¬ (a0 ≤ 3000) := by omega
      simp [laws_FnExactNewDisk.f, spec_NewDisk.f, impl_NewDisk.f, spec_l01In.f, impl_within.f, laws_eqDisk.f, laws_eqFileS.f, laws_eqFileS.l0, laws_FnExactNewDisk.j0, laws_FnExactNewDisk.j1, laws_markDisk.f, laws_markFileS.f, laws_markFileS.l0, laws_heldDisk.f, laws_heldFileS.f, laws_heldFileS.l0, h0, h1]
    · simp [laws_FnExactNewDisk.f, spec_NewDisk.f, impl_NewDisk.f, spec_l01In.f, impl_within.f, laws_eqDisk.f, laws_eqFileS.f, laws_eqFileS.l0, laws_FnExactNewDisk.j0, laws_FnExactNewDisk.j1, laws_markDisk.f, laws_markFileS.f, laws_markFileS.l0, laws_heldDisk.f, laws_heldFileS.f, laws_heldFileS.l0, h0]
end Go.Proofs.Ytdanonhkkdijnaa.Pure
