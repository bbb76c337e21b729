/- The row of FnExactPeaksRoot: at every argument it answers true, and every argument reads behind the call as it read before. Conditions: none beside those of the given statement. -/
import Derived.Test.YtfjpkblkdlgaeaaRows
import Derived.Test.YtfjpkblkdlgaeaaPFnExactPeaksRootx5
import Derived.Test.YtfjpkblkdlgaeaaPureFnExactPeaksRoot
import Derived.WalkKit
import Derived.ProofKit
import Derived.OpenShut
import Derived.ShutString
import Derived.ChangeOld
import Derived.Below
import Derived.SizedLaws
import Derived.Test.YtfjpkblkdlgaeaaWSized
namespace Go.Proofs.Ytfjpkblkdlgaeaa.fnExactPeaksRoot
open Go.ChangeShapes Go.WideShapes Go.ChangeAt Go.RowKit Go.Proofs.YtfjpkblkdlgaeaaW.PrintWords Go.Proofs.Ytfjpkblkdlgaeaa.PFnExactPeaksRoot Go.Proofs.Ytfjpkblkdlgaeaa.Open
open Go.ChangeMaps (open_string shut_string)
set_option linter.unusedVariables false
set_option linter.unusedSimpArgs false
theorem own : ownKnob Try.prog.godebug = none := by kernel_rfl
theorem laidOut : laidOutB Try.prog = true := by kernel_rfl
theorem op62 {H : Type} {enc : TypeId × Value → H} {w : World} {fuel : Nat} : OpensAt enc Try.prog w fuel 62 k62 g62 :=
  OpensAt.iso (fun y => (⟨y.1, y.2⟩ : S62)) (fun _ => rfl) (OpensAt.struct Try.underlying62 (by kernel_rfl) (L := [(3, 0, 1), (9, 1, 1)]) (by kernel_rfl) (fun m hm => (FieldsAt.cons rfl (OpensAt.int Try.underlying3) (FieldsAt.one rfl (OpensAt.string Try.underlying9)))))
set_option maxRecDepth 100000 in
theorem lifted (os : Os) (started : os.Started) (H : Type) (enc : TypeId × Value → H) :
    ReturnsInHanded {} Try.checked os 3 .any (Rows.fnExactPeaksRootSpec.pre6 enc Try.prog Try.f3 Rows.fnExactPeaksRootRow.domain false) (Rows.fnExactPeaksRootSpec.post enc Try.prog Try.f3 false true false false) := by
  refine returnsInHanded_of_change_sized (C := Try.checked) own started (by kernel_rfl) Try.func3
    (ChangeSpec.witness6 (enc := enc) (C := Try.checked) false ⟨#[], #[.slice none 0 0], []⟩ 8 (by kernel_rfl) (by kernel_rfl) (by kernel_rfl) (by kernel_rfl)) ?_
  intro W base args ds gs before hval0 hW hcnd hsz0 _
  have hsz : (DataW.weightsEach Try.prog (Try.f3.params.toList ++ Rows.fnExactPeaksRootSpec.plain.varTypes Try.prog) (ds ++ gs)).all (· ≤ reachBytes) = true := hsz0
  have hval : ∀ (j : Nat) t v, Try.f3.params[j]? = some t → args[j]? = some v → Value.okWide Try.prog W .any base t v := hval0
  have hW' := hW
  obtain ⟨p, q, hA0, hV, rfl, hfz, hnd⟩ := hW
  have hA : DataW.TrodAll enc Try.prog W 0 (fun _ => true) true Try.f3.params.toList args.toList ds p := hA0
  rw [Try.params3] at hA hval hsz
  obtain ⟨v0, vs0, d0, ds0, p0, q0, hargs, rfl, rfl, h0, r0⟩ := trodAll_cons hA
  obtain ⟨rfl, rfl, rfl⟩ := trodAll_nil r0
  obtain rfl : args = #[v0] := by cases args; simp_all
  obtain ⟨rfl, rfl⟩ := trodVars_none hV
  obtain ⟨A0, len0, c0, rfl⟩ := okWide_slice Try.underlying22 (hval 0 22 v0 rfl rfl)
  have k0 := h0
  have lt0 : ∀ x ∈ p0, x.block < W.heap.size := by obtain ⟨m, hm⟩ := k0; exact DataW.trod_lt m _ _ _ hm
  obtain ⟨l0, e0, hc0, hr0, hg0⟩ : ∃ l : (List S62), len0 = l.length ∧ l.length ≤ c0 ∧ Kd.C k62 W A0 l.length l ∧ Open.GL g62 l := by
    obtain ⟨fuel, hf⟩ := h0
    obtain ⟨l, ⟨A, c, hcs, hl, hC⟩, hG⟩ := (show OpensAt enc Try.prog W fuel 22 (Kd.slice 62 k62) (fun y : (List S62) => Open.GL g62 y) from (OpensAt.slice Try.underlying22 (by kernel_rfl) (fun m hm => op62))) _ _ hf
    simp only [Value.cells, List.cons.injEq, Value.slice.injEq, and_true] at hcs
    obtain ⟨rfl, rfl, rfl⟩ := hcs
    exact ⟨l, rfl, hl, hC, hG⟩
  subst e0
  clear hA0 hval0 hsz0 hsz
  obtain ⟨k, hp⟩ := Pure.FnExactPeaksRoot l0 hg0
  refine (laws_FnExactPeaksRoot.calls k A0 c0 l0 true W hr0 hc0 hp).mono fun e W' ⟨he, bel⟩ => ?_
  subst he
  exact ⟨_, rfl, _, _, _, [], _, [], hW', trodAll_mk1 (shut_bool Try.underlying4 _), (trodAll_cons_mk (Below.trod laidOut (by kernel_rfl) (of_decide_eq_true (by kernel_rfl)) k0 bel lt0) trodAll_mk0), rfl, bel.frame _, fun h => by cases h⟩
theorem over : Rows.fnExactPeaksRootRow.holds Try.pinned (OpenSpec.ofChange Rows.fnExactPeaksRootSpec) :=
  OpenClaim.holds_of_wide 3 Try.f3 rfl rfl rfl rfl rfl rfl rfl ⟨rfl, rfl, rfl, rfl, rfl⟩ rfl rfl rfl rfl rfl (by kernel_rfl) Try.func3 (by kernel_rfl)
    (of_decide_eq_true (by kernel_rfl)) (by unfold Func.isWrapper; first | (rw [if_pos (by decide +kernel)]; kernel_rfl) | (rw [if_neg (by decide +kernel)]; exact ⟨rfl, rfl⟩))
    (fun os started H enc _ => lifted os started H enc)
theorem proved : Rows.FnExactPeaksRootSaid := over
#print axioms proved
end Go.Proofs.Ytfjpkblkdlgaeaa.fnExactPeaksRoot
namespace Go.Proofs.Ytfjpkblkdlgaeaa
/-- The row, under a short name, for the claim. -/
theorem fnExactPeaksRoot_holds : Rows.FnExactPeaksRootSaid := fnExactPeaksRoot.proved
end Go.Proofs.Ytfjpkblkdlgaeaa
