/- The row of FnExactFileData: at every argument it answers true, and every argument reads behind the call as it read before. Conditions: none beside those of the given statement. -/
import Derived.Test.YtfjpkblkdlgaeaaRows
import Derived.Test.YtfjpkblkdlgaeaaPFnExactFileDatax7
import Derived.Test.YtfjpkblkdlgaeaaPureFnExactFileData
import Derived.WalkKit
import Derived.ProofKit
import Derived.OpenShut
import Derived.ShutString
import Derived.ChangeOld
import Derived.Below
import Derived.SizedLaws
import Derived.Test.YtfjpkblkdlgaeaaWSized
namespace Go.Proofs.Ytfjpkblkdlgaeaa.fnExactFileData
open Go.ChangeShapes Go.WideShapes Go.ChangeAt Go.RowKit Go.Proofs.YtfjpkblkdlgaeaaW.PrintWords Go.Proofs.Ytfjpkblkdlgaeaa.PFnExactFileData Go.Proofs.Ytfjpkblkdlgaeaa.Open
open Go.ChangeMaps (open_string shut_string)
set_option linter.unusedVariables false
set_option linter.unusedSimpArgs false
theorem own : ownKnob Try.prog.godebug = none := by kernel_rfl
theorem laidOut : laidOutB Try.prog = true := by kernel_rfl
theorem op105 {H : Type} {enc : TypeId × Value → H} {w : World} {fuel : Nat} : OpensAt enc Try.prog w fuel 105 k105 g105 :=
  OpensAt.iso (fun y => (⟨y.1, y.2.1, y.2.2⟩ : S105)) (fun _ => rfl) (OpensAt.struct Try.underlying105 (by kernel_rfl) (L := [(9, 0, 1), (9, 1, 1), (3, 2, 1)]) (by kernel_rfl) (fun m hm => (FieldsAt.cons rfl (OpensAt.string Try.underlying9) (FieldsAt.cons rfl (OpensAt.string Try.underlying9) (FieldsAt.one rfl (OpensAt.int Try.underlying3))))))
set_option maxRecDepth 100000 in
theorem lifted (os : Os) (started : os.Started) (H : Type) (enc : TypeId × Value → H) :
    ReturnsInHanded {} Try.checked os 5 .any (Rows.fnExactFileDataSpec.pre6 enc Try.prog Try.f5 Rows.fnExactFileDataRow.domain false) (Rows.fnExactFileDataSpec.post enc Try.prog Try.f5 false true false false) := by
  refine returnsInHanded_of_change_sized (C := Try.checked) own started (by kernel_rfl) Try.func5
    (ChangeSpec.witness6 (enc := enc) (C := Try.checked) false ⟨#[], #[.agg #[.int .i64 0, .slice none 0 0], .string ByteArray.empty], []⟩ 8 (by kernel_rfl) (by kernel_rfl) (by kernel_rfl) (by kernel_rfl)) ?_
  intro W base args ds gs before hval0 hW hcnd hsz0 _
  have hsz : (DataW.weightsEach Try.prog (Try.f5.params.toList ++ Rows.fnExactFileDataSpec.plain.varTypes Try.prog) (ds ++ gs)).all (· ≤ reachBytes) = true := hsz0
  have hval : ∀ (j : Nat) t v, Try.f5.params[j]? = some t → args[j]? = some v → Value.okWide Try.prog W .any base t v := hval0
  have hW' := hW
  obtain ⟨p, q, hA0, hV, rfl, hfz, hnd⟩ := hW
  have hA : DataW.TrodAll enc Try.prog W 0 (fun _ => true) true Try.f5.params.toList args.toList ds p := hA0
  rw [Try.params5] at hA hval hsz
  obtain ⟨v0, vs0, d0, ds0, p0, q0, hargs, rfl, rfl, h0, r0⟩ := trodAll_cons hA
  obtain ⟨v1, vs1, d1, ds1, p1, q1, rfl, rfl, rfl, h1, r1⟩ := trodAll_cons r0
  obtain ⟨rfl, rfl, rfl⟩ := trodAll_nil r1
  obtain rfl : args = #[v0, v1] := by cases args; simp_all
  obtain ⟨rfl, rfl⟩ := trodVars_none hV
  have k0 := h0
  have lt0 : ∀ x ∈ p0, x.block < W.heap.size := by obtain ⟨m, hm⟩ := k0; exact DataW.trod_lt m _ _ _ hm
  obtain ⟨cs0, rfl⟩ : ∃ cs, v0 = .agg cs := by
    have hv := (hval 0 43 v0 rfl rfl)
    simp only [Value.okWide, Try.underlying43] at hv
    obtain ⟨cs, h1, _⟩ := hv
    exact ⟨cs, h1⟩
  obtain ⟨fu0, hf0⟩ := h0
  obtain ⟨x0, hK0, hg0⟩ := OpensAt.struct (d := (Kd.pair (Kd.int .i64) (Kd.slice 105 k105))) Try.underlying43 (by kernel_rfl) (L := [(3, 0, 1), (41, 1, 1)]) (by kernel_rfl) (fun m hm => (FieldsAt.cons rfl (OpensAt.int Try.underlying3) (FieldsAt.one rfl (OpensAt.slice Try.underlying41 (by kernel_rfl) (fun m hm => op105))))) _ _ hf0
  obtain ⟨x0_0, x0_1⟩ := x0
  obtain ⟨_, _, hcs0, rfl, ⟨A0_1, c0_1, rfl, hc0_1, hr0_1⟩⟩ := hK0
  obtain ⟨cl0⟩ := cs0
  simp only [Value.cells, List.cons_append, List.nil_append] at hcs0
  subst hcs0
  obtain ⟨a1, rfl, rfl, rfl, y1⟩ := open_string Try.underlying9 (hval 1 9 v1 rfl rfl) h1
  clear hA0 hval0 hsz0 hsz
  obtain ⟨k, hp⟩ := Pure.FnExactFileData x0_0 x0_1 a1 hg0.1 hg0.2 y1
  refine (laws_FnExactFileData.calls k x0_0 A0_1 c0_1 x0_1 a1 true W hr0_1 hc0_1 hp).mono fun e W' ⟨he, bel⟩ => ?_
  subst he
  exact ⟨_, rfl, _, _, _, [], _, [], hW', trodAll_mk1 (shut_bool Try.underlying4 _), (trodAll_cons_mk (Below.trod laidOut (by kernel_rfl) (of_decide_eq_true (by kernel_rfl)) k0 bel lt0) (trodAll_cons_mk (shut_string Try.underlying9 y1) trodAll_mk0)), rfl, bel.frame _, fun h => by cases h⟩
theorem over : Rows.fnExactFileDataRow.holds Try.pinned (OpenSpec.ofChange Rows.fnExactFileDataSpec) :=
  OpenClaim.holds_of_wide 5 Try.f5 rfl rfl rfl rfl rfl rfl rfl ⟨rfl, rfl, rfl, rfl, rfl⟩ rfl rfl rfl rfl rfl (by kernel_rfl) Try.func5 (by kernel_rfl)
    (of_decide_eq_true (by kernel_rfl)) (by unfold Func.isWrapper; first | (rw [if_pos (by decide +kernel)]; kernel_rfl) | (rw [if_neg (by decide +kernel)]; exact ⟨rfl, rfl⟩))
    (fun os started H enc _ => lifted os started H enc)
theorem proved : Rows.FnExactFileDataSaid := over
#print axioms proved
end Go.Proofs.Ytfjpkblkdlgaeaa.fnExactFileData
namespace Go.Proofs.Ytfjpkblkdlgaeaa
/-- The row, under a short name, for the claim. -/
theorem fnExactFileData_holds : Rows.FnExactFileDataSaid := fnExactFileData.proved
end Go.Proofs.Ytfjpkblkdlgaeaa
