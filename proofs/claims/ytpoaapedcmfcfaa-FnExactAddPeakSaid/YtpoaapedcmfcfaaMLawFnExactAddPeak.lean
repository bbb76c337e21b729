/- The row of FnExactAddPeak: at every argument it answers true, and every argument reads behind the call as it read before. Conditions: none beside those of the given statement. -/
import Derived.Test.YtpoaapedcmfcfaaRows
import Derived.Test.YtpoaapedcmfcfaaMFnExactAddPeakPx9
import Derived.Test.YtpoaapedcmfcfaaMFnExactAddPeakPureFnExactAddPeak
import Derived.WalkKit
import Derived.ProofKit
import Derived.OpenShut
import Derived.ShutString
import Derived.ChangeOld
import Derived.Below
import Derived.SizedLaws
import Derived.Test.YtpoaapedcmfcfaaMFnExactAddPeakWSized
namespace Go.Proofs.Ytpoaapedcmfcfaa.fnExactAddPeak
open Go.ChangeShapes Go.WideShapes Go.ChangeAt Go.RowKit Go.Proofs.YtpoaapedcmfcfaaW.PrintWords Go.Proofs.Ytpoaapedcmfcfaa.PFnExactAddPeak Go.Proofs.Ytpoaapedcmfcfaa.Open
open Go.ChangeMaps (open_string shut_string)
set_option linter.unusedVariables false
set_option linter.unusedSimpArgs false
theorem own : ownKnob Try.prog.godebug = none := by kernel_rfl
theorem laidOut : laidOutB Try.prog = true := by kernel_rfl
theorem op64 {H : Type} {enc : TypeId × Value → H} {w : World} {fuel : Nat} : OpensAt enc Try.prog w fuel 64 k64 g64 :=
  OpensAt.iso (fun y => (⟨y.1, y.2⟩ : S64)) (fun _ => rfl) (OpensAt.struct Try.underlying64 (by kernel_rfl) (L := [(3, 0, 1), (9, 1, 1)]) (by kernel_rfl) (fun m hm => (FieldsAt.cons rfl (OpensAt.int Try.underlying3) (FieldsAt.one rfl (OpensAt.string Try.underlying9)))))
set_option maxRecDepth 100000 in
theorem lifted (os : Os) (started : os.Started) (H : Type) (enc : TypeId × Value → H) :
    ReturnsInHanded {} Try.checked os 12 .any (Rows.fnExactAddPeakSpec.pre6 enc Try.prog Try.f12 Rows.fnExactAddPeakRow.domain false) (Rows.fnExactAddPeakSpec.post enc Try.prog Try.f12 false true false false) := by
  refine returnsInHanded_of_change_sized (C := Try.checked) own started (by kernel_rfl) Try.func12
    (ChangeSpec.witness6 (enc := enc) (C := Try.checked) false ⟨#[], #[.slice none 0 0, .string ByteArray.empty], []⟩ 8 (by kernel_rfl) (by kernel_rfl) (by kernel_rfl) (by kernel_rfl)) ?_
  intro W base args ds gs before hval0 hW hcnd hsz0 _
  have hsz : (DataW.weightsEach Try.prog (Try.f12.params.toList ++ Rows.fnExactAddPeakSpec.plain.varTypes Try.prog) (ds ++ gs)).all (· ≤ reachBytes) = true := hsz0
  have hval : ∀ (j : Nat) t v, Try.f12.params[j]? = some t → args[j]? = some v → Value.okWide Try.prog W .any base t v := hval0
  have hW' := hW
  obtain ⟨p, q, hA0, hV, rfl, hfz, hnd⟩ := hW
  have hA : DataW.TrodAll enc Try.prog W 0 (fun _ => true) true Try.f12.params.toList args.toList ds p := hA0
  rw [Try.params12] at hA hval hsz
  obtain ⟨v0, vs0, d0, ds0, p0, q0, hargs, rfl, rfl, h0, r0⟩ := trodAll_cons hA
  obtain ⟨v1, vs1, d1, ds1, p1, q1, rfl, rfl, rfl, h1, r1⟩ := trodAll_cons r0
  obtain ⟨rfl, rfl, rfl⟩ := trodAll_nil r1
  obtain rfl : args = #[v0, v1] := by cases args; simp_all
  obtain ⟨rfl, rfl⟩ := trodVars_none hV
  obtain ⟨A0, len0, c0, rfl⟩ := okWide_slice Try.underlying38 (hval 0 38 v0 rfl rfl)
  have k0 := h0
  have lt0 : ∀ x ∈ p0, x.block < W.heap.size := by obtain ⟨m, hm⟩ := k0; exact DataW.trod_lt m _ _ _ hm
  obtain ⟨l0, e0, hc0, hr0, hg0⟩ : ∃ l : (List S64), len0 = l.length ∧ l.length ≤ c0 ∧ Kd.C k64 W A0 l.length l ∧ Open.GL g64 l := by
    obtain ⟨fuel, hf⟩ := h0
    obtain ⟨l, ⟨A, c, hcs, hl, hC⟩, hG⟩ := (show OpensAt enc Try.prog W fuel 38 (Kd.slice 64 k64) (fun y : (List S64) => Open.GL g64 y) from (OpensAt.slice Try.underlying38 (by kernel_rfl) (fun m hm => op64))) _ _ hf
    simp only [Value.cells, List.cons.injEq, Value.slice.injEq, and_true] at hcs
    obtain ⟨rfl, rfl, rfl⟩ := hcs
    exact ⟨l, rfl, hl, hC, hG⟩
  subst e0
  obtain ⟨a1, rfl, rfl, rfl, y1⟩ := open_string Try.underlying9 (hval 1 9 v1 rfl rfl) h1
  clear hA0 hval0 hsz0 hsz
  obtain ⟨k, hp⟩ := Pure.FnExactAddPeak l0 a1 hg0 y1
  refine (laws_FnExactAddPeak.calls k A0 c0 l0 a1 true W hr0 hc0 hp).mono fun e W' ⟨he, bel⟩ => ?_
  subst he
  exact ⟨_, rfl, _, _, _, [], _, [], hW', trodAll_mk1 (shut_bool Try.underlying4 _), (trodAll_cons_mk (Below.trod laidOut (by kernel_rfl) (of_decide_eq_true (by kernel_rfl)) k0 bel lt0) (trodAll_cons_mk (shut_string Try.underlying9 y1) trodAll_mk0)), rfl, bel.frame _, fun h => by cases h⟩
theorem over : Rows.fnExactAddPeakRow.holds Try.pinned (OpenSpec.ofChange Rows.fnExactAddPeakSpec) :=
  OpenClaim.holds_of_wide 12 Try.f12 rfl rfl rfl rfl rfl rfl rfl ⟨rfl, rfl, rfl, rfl, rfl⟩ rfl rfl rfl rfl rfl (by kernel_rfl) Try.func12 (by kernel_rfl)
    (of_decide_eq_true (by kernel_rfl)) (by unfold Func.isWrapper; first | (rw [if_pos (by decide +kernel)]; kernel_rfl) | (rw [if_neg (by decide +kernel)]; exact ⟨rfl, rfl⟩))
    (fun os started H enc _ => lifted os started H enc)
theorem proved : Rows.FnExactAddPeakSaid := over
#print axioms proved
end Go.Proofs.Ytpoaapedcmfcfaa.fnExactAddPeak
namespace Go.Proofs.Ytpoaapedcmfcfaa
/-- The row, under a short name, for the claim. -/
theorem fnExactAddPeak_holds : Rows.FnExactAddPeakSaid := fnExactAddPeak.proved
end Go.Proofs.Ytpoaapedcmfcfaa
