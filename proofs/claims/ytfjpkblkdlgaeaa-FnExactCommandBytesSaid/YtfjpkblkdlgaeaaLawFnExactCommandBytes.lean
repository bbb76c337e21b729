/- The row of FnExactCommandBytes: at every argument it answers true, and every argument reads behind the call as it read before. Conditions: none beside those of the given statement. -/
import Derived.Test.YtfjpkblkdlgaeaaRows
import Derived.Test.YtfjpkblkdlgaeaaPFnExactCommandBytesx5
import Derived.Test.YtfjpkblkdlgaeaaPureFnExactCommandBytes
import Derived.WalkKit
import Derived.ProofKit
import Derived.OpenShut
import Derived.ShutString
import Derived.ChangeOld
import Derived.Below
import Derived.SizedLaws
import Derived.Test.YtfjpkblkdlgaeaaWSized
namespace Go.Proofs.Ytfjpkblkdlgaeaa.fnExactCommandBytes
open Go.ChangeShapes Go.WideShapes Go.ChangeAt Go.RowKit Go.Proofs.YtfjpkblkdlgaeaaW.PrintWords Go.Proofs.Ytfjpkblkdlgaeaa.PFnExactCommandBytes Go.Proofs.Ytfjpkblkdlgaeaa.Open
open Go.ChangeMaps (open_string shut_string)
set_option linter.unusedVariables false
set_option linter.unusedSimpArgs false
theorem own : ownKnob Try.prog.godebug = none := by kernel_rfl
theorem laidOut : laidOutB Try.prog = true := by kernel_rfl
set_option maxRecDepth 100000 in
theorem lifted (os : Os) (started : os.Started) (H : Type) (enc : TypeId × Value → H) :
    ReturnsInHanded {} Try.checked os 4 .any (Rows.fnExactCommandBytesSpec.pre6 enc Try.prog Try.f4 Rows.fnExactCommandBytesRow.domain false) (Rows.fnExactCommandBytesSpec.post enc Try.prog Try.f4 false true false false) := by
  refine returnsInHanded_of_change_sized (C := Try.checked) own started (by kernel_rfl) Try.func4
    (ChangeSpec.witness6 (enc := enc) (C := Try.checked) false ⟨#[], #[.agg #[.int .i64 0, .int .i64 0, .int .i64 0, .string ByteArray.empty, .string ByteArray.empty]], []⟩ 8 (by kernel_rfl) (by kernel_rfl) (by kernel_rfl) (by kernel_rfl)) ?_
  intro W base args ds gs before hval0 hW hcnd hsz0 _
  have hsz : (DataW.weightsEach Try.prog (Try.f4.params.toList ++ Rows.fnExactCommandBytesSpec.plain.varTypes Try.prog) (ds ++ gs)).all (· ≤ reachBytes) = true := hsz0
  have hval : ∀ (j : Nat) t v, Try.f4.params[j]? = some t → args[j]? = some v → Value.okWide Try.prog W .any base t v := hval0
  have hW' := hW
  obtain ⟨p, q, hA0, hV, rfl, hfz, hnd⟩ := hW
  have hA : DataW.TrodAll enc Try.prog W 0 (fun _ => true) true Try.f4.params.toList args.toList ds p := hA0
  rw [Try.params4] at hA hval hsz
  obtain ⟨v0, vs0, d0, ds0, p0, q0, hargs, rfl, rfl, h0, r0⟩ := trodAll_cons hA
  obtain ⟨rfl, rfl, rfl⟩ := trodAll_nil r0
  obtain rfl : args = #[v0] := by cases args; simp_all
  obtain ⟨rfl, rfl⟩ := trodVars_none hV
  have k0 := h0
  have lt0 : ∀ x ∈ p0, x.block < W.heap.size := by obtain ⟨m, hm⟩ := k0; exact DataW.trod_lt m _ _ _ hm
  obtain ⟨cs0, rfl⟩ : ∃ cs, v0 = .agg cs := by
    have hv := (hval 0 31 v0 rfl rfl)
    simp only [Value.okWide, Try.underlying31] at hv
    obtain ⟨cs, h1, _⟩ := hv
    exact ⟨cs, h1⟩
  obtain ⟨fu0, hf0⟩ := h0
  obtain ⟨x0, hK0, hg0⟩ := OpensAt.struct (d := (Kd.pair (Kd.int .i64) (Kd.pair (Kd.int .i64) (Kd.pair (Kd.int .i64) (Kd.pair Kd.string Kd.string))))) Try.underlying31 (by kernel_rfl) (L := [(3, 0, 1), (3, 1, 1), (3, 2, 1), (9, 3, 1), (9, 4, 1)]) (by kernel_rfl) (fun m hm => (FieldsAt.cons rfl (OpensAt.int Try.underlying3) (FieldsAt.cons rfl (OpensAt.int Try.underlying3) (FieldsAt.cons rfl (OpensAt.int Try.underlying3) (FieldsAt.cons rfl (OpensAt.string Try.underlying9) (FieldsAt.one rfl (OpensAt.string Try.underlying9))))))) _ _ hf0
  obtain ⟨x0_0, x0_1, x0_2, x0_3, x0_4⟩ := x0
  obtain ⟨_, _, hcs0, rfl, ⟨_, _, rfl, rfl, ⟨_, _, rfl, rfl, ⟨_, _, rfl, rfl, rfl⟩⟩⟩⟩ := hK0
  obtain ⟨cl0⟩ := cs0
  simp only [Value.cells, List.cons_append, List.nil_append] at hcs0
  subst hcs0
  clear hA0 hval0 hsz0 hsz
  obtain ⟨k, hp⟩ := Pure.FnExactCommandBytes x0_0 x0_1 x0_2 x0_3 x0_4 hg0.1 hg0.2.1 hg0.2.2.1 hg0.2.2.2.1 hg0.2.2.2.2
  refine (laws_FnExactCommandBytes.calls k x0_0 x0_1 x0_2 x0_3 x0_4 true W  hp).mono fun e W' ⟨he, bel⟩ => ?_
  subst he
  exact ⟨_, rfl, _, _, _, [], _, [], hW', trodAll_mk1 (shut_bool Try.underlying4 _), (trodAll_cons_mk (Below.trod laidOut (by kernel_rfl) (of_decide_eq_true (by kernel_rfl)) k0 bel lt0) trodAll_mk0), rfl, bel.frame _, fun h => by cases h⟩
theorem over : Rows.fnExactCommandBytesRow.holds Try.pinned (OpenSpec.ofChange Rows.fnExactCommandBytesSpec) :=
  OpenClaim.holds_of_wide 4 Try.f4 rfl rfl rfl rfl rfl rfl rfl ⟨rfl, rfl, rfl, rfl, rfl⟩ rfl rfl rfl rfl rfl (by kernel_rfl) Try.func4 (by kernel_rfl)
    (of_decide_eq_true (by kernel_rfl)) (by unfold Func.isWrapper; first | (rw [if_pos (by decide +kernel)]; kernel_rfl) | (rw [if_neg (by decide +kernel)]; exact ⟨rfl, rfl⟩))
    (fun os started H enc _ => lifted os started H enc)
theorem proved : Rows.FnExactCommandBytesSaid := over
#print axioms proved
end Go.Proofs.Ytfjpkblkdlgaeaa.fnExactCommandBytes
namespace Go.Proofs.Ytfjpkblkdlgaeaa
/-- The row, under a short name, for the claim. -/
theorem fnExactCommandBytes_holds : Rows.FnExactCommandBytesSaid := fnExactCommandBytes.proved
end Go.Proofs.Ytfjpkblkdlgaeaa
