/- The row of FnExactMapList: at every argument it answers true, and every argument reads behind the call as it read before. Conditions: none beside those of the given statement. -/
import Derived.Test.YtjkdmegpjdfcaaaRows
import Derived.Test.YtjkdmegpjdfcaaaMFnExactMapListPx7
import Derived.Test.YtjkdmegpjdfcaaaMFnExactMapListPureFnExactMapList
import Derived.WalkKit
import Derived.ProofKit
import Derived.OpenShut
import Derived.ShutString
import Derived.ChangeOld
import Derived.Below
import Derived.SizedLaws
import Derived.Test.YtjkdmegpjdfcaaaMFnExactMapListWSized
namespace Go.Proofs.Ytjkdmegpjdfcaaa.fnExactMapList
open Go.ChangeShapes Go.WideShapes Go.ChangeAt Go.RowKit Go.Proofs.YtjkdmegpjdfcaaaW.PrintWords Go.Proofs.Ytjkdmegpjdfcaaa.PFnExactMapList Go.Proofs.Ytjkdmegpjdfcaaa.Open
open Go.ChangeMaps (open_string shut_string)
set_option linter.unusedVariables false
set_option linter.unusedSimpArgs false
theorem own : ownKnob Try.prog.godebug = none := by kernel_rfl
theorem laidOut : laidOutB Try.prog = true := by kernel_rfl
theorem op24_all {H : Type} {enc : TypeId × Value → H} {w : World} : ∀ fuel, OpensAt enc Try.prog w fuel 24 k24 g24 := by
  intro fuel
  induction fuel using Nat.strongRecOn with
  | _ fuel ih =>
  intro cs x hx
  obtain ⟨y, hK, hG⟩ := OpensAt.struct (d := (Kd.pair Kd.string (Kd.pair Kd.string (Kd.pair (Kd.int .i64) (Kd.slice 24 k24))))) Try.underlying24 (by kernel_rfl) (L := [(9, 0, 1), (9, 1, 1), (3, 2, 1), (22, 3, 1)]) (by kernel_rfl) (fun m hm => (FieldsAt.cons rfl (OpensAt.string Try.underlying9) (FieldsAt.cons rfl (OpensAt.string Try.underlying9) (FieldsAt.cons rfl (OpensAt.int Try.underlying3) (FieldsAt.one rfl (OpensAt.slice Try.underlying22 (by kernel_rfl) (fun m hm => (ih _ (by omega))))))))) cs x hx
  obtain ⟨y0, y1, y2, y3⟩ := y
  obtain ⟨_, _, rfl, rfl, ⟨_, _, rfl, rfl, ⟨_, _, rfl, rfl, ⟨A, c, rfl, hl, hC⟩⟩⟩⟩ := hK
  obtain ⟨hG0, hG1, hG2, hG3⟩ := hG
  exact ⟨⟨y0, y1, y2, y3⟩, k24_mk w ⟨y0, y1, y2, y3⟩ hl hC, g24.mk _ hG0 hG1 hG2 hG3.1 hG3.2⟩
theorem op24 {H : Type} {enc : TypeId × Value → H} {w : World} {fuel : Nat} : OpensAt enc Try.prog w fuel 24 k24 g24 := op24_all fuel
set_option maxRecDepth 100000 in
theorem lifted (os : Os) (started : os.Started) (H : Type) (enc : TypeId × Value → H) :
    ReturnsInHanded {} Try.checked os 5 .any (Rows.fnExactMapListSpec.pre6 enc Try.prog Try.f5 Rows.fnExactMapListRow.domain false) (Rows.fnExactMapListSpec.post enc Try.prog Try.f5 false true false false) := by
  refine returnsInHanded_of_change_sized (C := Try.checked) own started (by kernel_rfl) Try.func5
    (ChangeSpec.witness6 (enc := enc) (C := Try.checked) false ⟨#[], #[.agg #[.string ByteArray.empty, .string ByteArray.empty, .int .i64 0, .slice none 0 0]], []⟩ 8 (by kernel_rfl) (by kernel_rfl) (by kernel_rfl) (by kernel_rfl)) ?_
  intro W base args ds gs before hval0 hW hcnd hsz0 _
  have hsz : (DataW.weightsEach Try.prog (Try.f5.params.toList ++ Rows.fnExactMapListSpec.plain.varTypes Try.prog) (ds ++ gs)).all (· ≤ reachBytes) = true := hsz0
  have hval : ∀ (j : Nat) t v, Try.f5.params[j]? = some t → args[j]? = some v → Value.okWide Try.prog W .any base t v := hval0
  have hW' := hW
  obtain ⟨p, q, hA0, hV, rfl, hfz, hnd⟩ := hW
  have hA : DataW.TrodAll enc Try.prog W 0 (fun _ => true) true Try.f5.params.toList args.toList ds p := hA0
  rw [Try.params5] at hA hval hsz
  obtain ⟨v0, vs0, d0, ds0, p0, q0, hargs, rfl, rfl, h0, r0⟩ := trodAll_cons hA
  obtain ⟨rfl, rfl, rfl⟩ := trodAll_nil r0
  obtain rfl : args = #[v0] := by cases args; simp_all
  obtain ⟨rfl, rfl⟩ := trodVars_none hV
  have k0 := h0
  have lt0 : ∀ x ∈ p0, x.block < W.heap.size := by obtain ⟨m, hm⟩ := k0; exact DataW.trod_lt m _ _ _ hm
  obtain ⟨cs0, rfl⟩ : ∃ cs, v0 = .agg cs := by
    have hv := (hval 0 24 v0 rfl rfl)
    simp only [Value.okWide, Try.underlying24] at hv
    obtain ⟨cs, h1, _⟩ := hv
    exact ⟨cs, h1⟩
  obtain ⟨fu0, hf0⟩ := h0
  obtain ⟨x0, hK0, hg0⟩ := OpensAt.struct (d := (Kd.pair Kd.string (Kd.pair Kd.string (Kd.pair (Kd.int .i64) (Kd.slice 24 k24))))) Try.underlying24 (by kernel_rfl) (L := [(9, 0, 1), (9, 1, 1), (3, 2, 1), (22, 3, 1)]) (by kernel_rfl) (fun m hm => (FieldsAt.cons rfl (OpensAt.string Try.underlying9) (FieldsAt.cons rfl (OpensAt.string Try.underlying9) (FieldsAt.cons rfl (OpensAt.int Try.underlying3) (FieldsAt.one rfl (OpensAt.slice Try.underlying22 (by kernel_rfl) (fun m hm => (op24)))))))) _ _ hf0
  obtain ⟨x0_0, x0_1, x0_2, x0_3⟩ := x0
  obtain ⟨_, _, hcs0, rfl, ⟨_, _, rfl, rfl, ⟨_, _, rfl, rfl, ⟨A0_3, c0_3, rfl, hc0_3, hr0_3⟩⟩⟩⟩ := hK0
  obtain ⟨cl0⟩ := cs0
  simp only [Value.cells, List.cons_append, List.nil_append] at hcs0
  subst hcs0
  clear hA0 hval0 hsz0 hsz
  obtain ⟨k, hp⟩ := Pure.FnExactMapList x0_0 x0_1 x0_2 x0_3 hg0.1 hg0.2.1 hg0.2.2.1 hg0.2.2.2
  refine (laws_FnExactMapList.calls k x0_0 x0_1 x0_2 A0_3 c0_3 x0_3 true W hr0_3 hc0_3 hp).mono fun e W' ⟨he, bel⟩ => ?_
  subst he
  exact ⟨_, rfl, _, _, _, [], _, [], hW', trodAll_mk1 (shut_bool Try.underlying4 _), (trodAll_cons_mk (Below.trod laidOut (by kernel_rfl) (of_decide_eq_true (by kernel_rfl)) k0 bel lt0) trodAll_mk0), rfl, bel.frame _, fun h => by cases h⟩
theorem over : Rows.fnExactMapListRow.holds Try.pinned (OpenSpec.ofChange Rows.fnExactMapListSpec) :=
  OpenClaim.holds_of_wide 5 Try.f5 rfl rfl rfl rfl rfl rfl rfl ⟨rfl, rfl, rfl, rfl, rfl⟩ rfl rfl rfl rfl rfl (by kernel_rfl) Try.func5 (by kernel_rfl)
    (of_decide_eq_true (by kernel_rfl)) (by unfold Func.isWrapper; first | (rw [if_pos (by decide +kernel)]; kernel_rfl) | (rw [if_neg (by decide +kernel)]; exact ⟨rfl, rfl⟩))
    (fun os started H enc _ => lifted os started H enc)
theorem proved : Rows.FnExactMapListSaid := over
#print axioms proved
end Go.Proofs.Ytjkdmegpjdfcaaa.fnExactMapList
namespace Go.Proofs.Ytjkdmegpjdfcaaa
/-- The row, under a short name, for the claim. -/
theorem fnExactMapList_holds : Rows.FnExactMapListSaid := fnExactMapList.proved
end Go.Proofs.Ytjkdmegpjdfcaaa
