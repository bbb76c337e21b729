/- The row of FnExactConsistencyRoots: at every argument it answers true, and every argument reads behind the call as it read before. Conditions: none beside those of the given statement. -/
import Derived.Test.YtpoaapedcmfcfaaRows
import Derived.Test.YtpoaapedcmfcfaaPFnExactConsistencyRootsx3
import Derived.Test.YtpoaapedcmfcfaaPureFnExactConsistencyRoots
import Derived.WalkKit
import Derived.ProofKit
import Derived.OpenShut
import Derived.ShutString
import Derived.ChangeOld
import Derived.Below
import Derived.SizedLaws
import Derived.Test.YtpoaapedcmfcfaaWSized
namespace Go.Proofs.Ytpoaapedcmfcfaa.fnExactConsistencyRoots
open Go.ChangeShapes Go.WideShapes Go.ChangeAt Go.RowKit Go.Proofs.YtpoaapedcmfcfaaW.PrintWords Go.Proofs.Ytpoaapedcmfcfaa.PFnExactConsistencyRoots Go.Proofs.Ytpoaapedcmfcfaa.Open
open Go.ChangeMaps (open_string shut_string)
set_option linter.unusedVariables false
set_option linter.unusedSimpArgs false
theorem own : ownKnob Try.prog.godebug = none := by kernel_rfl
theorem laidOut : laidOutB Try.prog = true := by kernel_rfl
set_option maxRecDepth 100000 in
theorem lifted (os : Os) (started : os.Started) (H : Type) (enc : TypeId × Value → H) :
    ReturnsInHanded {} Try.checked os 10 .any (Rows.fnExactConsistencyRootsSpec.pre6 enc Try.prog Try.f10 Rows.fnExactConsistencyRootsRow.domain false) (Rows.fnExactConsistencyRootsSpec.post enc Try.prog Try.f10 false true false false) := by
  refine returnsInHanded_of_change_sized (C := Try.checked) own started (by kernel_rfl) Try.func10
    (ChangeSpec.witness6 (enc := enc) (C := Try.checked) false ⟨#[], #[.int .i64 0, .int .i64 0, .string ByteArray.empty, .slice none 0 0], []⟩ 8 (by kernel_rfl) (by kernel_rfl) (by kernel_rfl) (by kernel_rfl)) ?_
  intro W base args ds gs before hval0 hW hcnd hsz0 _
  have hsz : (DataW.weightsEach Try.prog (Try.f10.params.toList ++ Rows.fnExactConsistencyRootsSpec.plain.varTypes Try.prog) (ds ++ gs)).all (· ≤ reachBytes) = true := hsz0
  have hval : ∀ (j : Nat) t v, Try.f10.params[j]? = some t → args[j]? = some v → Value.okWide Try.prog W .any base t v := hval0
  have hW' := hW
  obtain ⟨p, q, hA0, hV, rfl, hfz, hnd⟩ := hW
  have hA : DataW.TrodAll enc Try.prog W 0 (fun _ => true) true Try.f10.params.toList args.toList ds p := hA0
  rw [Try.params10] at hA hval hsz
  obtain ⟨v0, vs0, d0, ds0, p0, q0, hargs, rfl, rfl, h0, r0⟩ := trodAll_cons hA
  obtain ⟨v1, vs1, d1, ds1, p1, q1, rfl, rfl, rfl, h1, r1⟩ := trodAll_cons r0
  obtain ⟨v2, vs2, d2, ds2, p2, q2, rfl, rfl, rfl, h2, r2⟩ := trodAll_cons r1
  obtain ⟨v3, vs3, d3, ds3, p3, q3, rfl, rfl, rfl, h3, r3⟩ := trodAll_cons r2
  obtain ⟨rfl, rfl, rfl⟩ := trodAll_nil r3
  obtain rfl : args = #[v0, v1, v2, v3] := by cases args; simp_all
  obtain ⟨rfl, rfl⟩ := trodVars_none hV
  obtain ⟨a0, rfl, rfl, rfl, w0⟩ := open_int Try.underlying3 (hval 0 3 v0 rfl rfl) h0
  obtain ⟨a1, rfl, rfl, rfl, w1⟩ := open_int Try.underlying3 (hval 1 3 v1 rfl rfl) h1
  obtain ⟨a2, rfl, rfl, rfl, y2⟩ := open_string Try.underlying9 (hval 2 9 v2 rfl rfl) h2
  obtain ⟨A3, len3, c3, rfl⟩ := okWide_slice Try.underlying32 (hval 3 32 v3 rfl rfl)
  have k3 := h3
  have lt3 : ∀ x ∈ p3, x.block < W.heap.size := by obtain ⟨m, hm⟩ := k3; exact DataW.trod_lt m _ _ _ hm
  obtain ⟨l3, e3, hc3, hr3, hg3⟩ : ∃ l : (List ByteArray), len3 = l.length ∧ l.length ≤ c3 ∧ Kd.C Kd.string W A3 l.length l ∧ Open.GL (fun y : ByteArray => y.size ≤ maxLen) l := by
    obtain ⟨fuel, hf⟩ := h3
    obtain ⟨l, ⟨A, c, hcs, hl, hC⟩, hG⟩ := (show OpensAt enc Try.prog W fuel 32 (Kd.slice 9 Kd.string) (fun y : (List ByteArray) => Open.GL (fun y : ByteArray => y.size ≤ maxLen) y) from (OpensAt.slice Try.underlying32 (by kernel_rfl) (fun m hm => (OpensAt.string Try.underlying9)))) _ _ hf
    simp only [Value.cells, List.cons.injEq, Value.slice.injEq, and_true] at hcs
    obtain ⟨rfl, rfl, rfl⟩ := hcs
    exact ⟨l, rfl, hl, hC, hG⟩
  subst e3
  clear hA0 hval0 hsz0 hsz
  obtain ⟨k, hp⟩ := Pure.FnExactConsistencyRoots a0 a1 a2 l3 w0 w1 y2 hg3
  refine (laws_FnExactConsistencyRoots.calls k a0 a1 a2 A3 c3 l3 true W hr3 hc3 hp).mono fun e W' ⟨he, bel⟩ => ?_
  subst he
  exact ⟨_, rfl, _, _, _, [], _, [], hW', trodAll_mk1 (shut_bool Try.underlying4 _), (trodAll_cons_mk (shut_int Try.underlying3 w0) (trodAll_cons_mk (shut_int Try.underlying3 w1) (trodAll_cons_mk (shut_string Try.underlying9 y2) (trodAll_cons_mk (Below.trod laidOut (by kernel_rfl) (of_decide_eq_true (by kernel_rfl)) k3 bel lt3) trodAll_mk0)))), rfl, bel.frame _, fun h => by cases h⟩
theorem over : Rows.fnExactConsistencyRootsRow.holds Try.pinned (OpenSpec.ofChange Rows.fnExactConsistencyRootsSpec) :=
  OpenClaim.holds_of_wide 10 Try.f10 rfl rfl rfl rfl rfl rfl rfl ⟨rfl, rfl, rfl, rfl, rfl⟩ rfl rfl rfl rfl rfl (by kernel_rfl) Try.func10 (by kernel_rfl)
    (of_decide_eq_true (by kernel_rfl)) (by unfold Func.isWrapper; first | (rw [if_pos (by decide +kernel)]; kernel_rfl) | (rw [if_neg (by decide +kernel)]; exact ⟨rfl, rfl⟩))
    (fun os started H enc _ => lifted os started H enc)
theorem proved : Rows.FnExactConsistencyRootsSaid := over
#print axioms proved
end Go.Proofs.Ytpoaapedcmfcfaa.fnExactConsistencyRoots
namespace Go.Proofs.Ytpoaapedcmfcfaa
/-- The row, under a short name, for the claim. -/
theorem fnExactConsistencyRoots_holds : Rows.FnExactConsistencyRootsSaid := fnExactConsistencyRoots.proved
end Go.Proofs.Ytpoaapedcmfcfaa
