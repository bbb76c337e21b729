/- CommandOK answers as the reference's at every command: the plain form. No conditions. -/
import Derived.Test.YtdanonhkkdijnaaQFnExactCommandOK
import Derived.Test.YtdanonhkkdijnaaU
namespace Go.Proofs.Ytdanonhkkdijnaa.Pure
open Go.RowKit Go.Proofs.Ytdanonhkkdijnaa.PFnExactCommandOK Go.Proofs.YtdanonhkkdijnaaW.PrintWords Go.Proofs.YtdanonhkkdijnaaW.PrintLast Go.Proofs.YtdanonhkkdijnaaW.PrintMore Go.Proofs.Ytdanonhkkdijnaa.U
theorem key_eq (a : ByteArray) : impl_isKey.f a = spec_l02Key.f a := by
  unfold impl_isKey.f impl_within.f spec_l02Key.f
  split <;> rfl
theorem key_some (a : ByteArray) : ∃ b, spec_l02Key.f a = some b := by
  unfold spec_l02Key.f
  split <;> exact ⟨_, rfl⟩
theorem j1_eq (k : Nat) (a : Int) (b : Bool) (c d e : Int) (f g : ByteArray) : impl_CommandOK.j1 k a b c d e f g = spec_CommandOK.j1 k a b c d e f g := by
  cases k with
  | zero => rfl
  | succ k => simp only [impl_CommandOK.j1, spec_CommandOK.j1, key_eq]
theorem j0_eq (k : Nat) (b : Bool) (c d e : Int) (f g : ByteArray) : impl_CommandOK.j0 k b c d e f g = spec_CommandOK.j0 k b c d e f g := by
  cases k with
  | zero => rfl
  | succ k => simp only [impl_CommandOK.j0, spec_CommandOK.j0, j1_eq]
theorem j1_some (k : Nat) (a : Int) (b : Bool) (c d e : Int) (f g : ByteArray) : ∃ r, spec_CommandOK.j1 (k + 1) a b c d e f g = some r := by
  obtain ⟨q, hq⟩ := key_some f
  simp only [spec_CommandOK.j1, hq, Option.bind_some]
  repeat' split
  all_goals exact ⟨_, rfl⟩
theorem j0_some (k : Nat) (b : Bool) (c d e : Int) (f g : ByteArray) : ∃ r, spec_CommandOK.j0 (k + 2) b c d e f g = some r := by
  simp only [spec_CommandOK.j0]
  split
  · exact ⟨_, rfl⟩
  · split <;> exact j1_some k _ _ _ _ _ _ _
theorem cmd_eq (k : Nat) (a b c : Int) (d e : ByteArray) : impl_CommandOK.f k a b c d e = spec_CommandOK.f k a b c d e := by
  have hv : (!(decide ((e.size : Int) ≤ 60))) = decide ((e.size : Int) > 60) := by rw [Bool.eq_iff_iff]; simp
  unfold impl_CommandOK.f spec_CommandOK.f impl_isShort.f impl_isValue.f impl_within.f spec_l01In.f
  simp only [j0_eq]
  by_cases hb : b ≥ 0
  · by_cases hc : c ≥ 0
    · rw [if_pos hb, if_pos hc]
      simp only [Option.bind_some, hv]
    · rw [if_pos hb, if_neg hc]
      simp only [Option.bind_some, Bool.false_eq_true, if_false]
  · rw [if_neg hb]
    simp only [Option.bind_some, Bool.false_eq_true, if_false]
theorem cmd_some (a b c : Int) (d e : ByteArray) : ∃ r, spec_CommandOK.f 2 a b c d e = some r := by
  unfold spec_CommandOK.f spec_l01In.f
  obtain ⟨r, h⟩ := j0_some 0 true a b c d e
  obtain ⟨r2, h2⟩ := j0_some 0 (decide ((e.size : Int) > 60)) a b c d e
  by_cases hb : b ≥ 0 <;> by_cases hc : c ≥ 0
  all_goals simp only [hb, hc, if_true, if_false, Option.bind_some, Bool.false_eq_true]
  all_goals repeat' split
  all_goals first | exact ⟨r, h⟩ | exact ⟨r2, h2⟩
theorem sz_some (a b c : Int) (d e : ByteArray) (n : Int) : ∃ s, laws_szCommand.f a b c d e n = some s := by
  unfold laws_szCommand.f
  repeat' split
  all_goals exact ⟨_, rfl⟩
theorem FnExactCommandOK : laws_FnExactCommandOK.Pure := by
  intro a b c d e _ _ _ _ _
  refine ⟨2, ?_⟩
  unfold laws_FnExactCommandOK.f laws_toCommand.f
  obtain ⟨r, hr⟩ := cmd_some a b c d e
  obtain ⟨s, hs⟩ := sz_some a b c d e 1048576
  rw [hs]
  simp only [Option.bind_some, cmd_eq, hr]
  split
  · rfl
  · simp
end Go.Proofs.Ytdanonhkkdijnaa.Pure
