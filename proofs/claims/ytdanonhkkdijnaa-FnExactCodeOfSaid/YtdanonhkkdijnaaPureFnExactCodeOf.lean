/- CodeOf answers as the reference's at every text: the plain form. No conditions. -/
import Derived.Test.YtdanonhkkdijnaaPFnExactCodeOfx1
namespace Go.Proofs.Ytdanonhkkdijnaa.Pure
open Go.RowKit Go.Proofs.Ytdanonhkkdijnaa.PFnExactCodeOf Go.Proofs.YtdanonhkkdijnaaW.PrintWords Go.Proofs.YtdanonhkkdijnaaW.PrintLast
theorem words_some : ∃ ws : List ByteArray, impl_codeWords.f = some ws ∧ ws.length = 20 ∧ ∀ n : Nat, n < 20 → spec_CodeWord.f (n : Int) = some (rdOf ByteArray.empty ws (n : Int)) := by
  refine ⟨_, rfl, rfl, ?_⟩
  have h : ∀ n : Fin 20, spec_CodeWord.f ((n.val : Nat) : Int) = impl_codeWords.f.map fun ws => rdOf ByteArray.empty ws ((n.val : Nat) : Int) := by decide +kernel
  intro n hn
  exact h ⟨n, hn⟩
theorem find_same (ws : List ByteArray) (hl : ws.length = 20) (hw : ∀ n : Nat, n < 20 → spec_CodeWord.f (n : Int) = some (rdOf ByteArray.empty ws (n : Int))) (x : ByteArray) (d : Nat) :
    ∀ (k i : Nat), i + d = 20 → d < k → ∃ r, spec_CodeOf.l0 k x (i : Int) = some r ∧ slices_Index_string_string.l0 k ws x (20 : Int) (i : Int) = some r := by
  induction d with
  | zero =>
    intro k i hi hk
    obtain ⟨k, rfl⟩ : ∃ m, k = m + 1 := ⟨k - 1, by omega⟩
    obtain rfl : i = 20 := by omega
    exact ⟨-1, rfl, rfl⟩
  | succ d ih =>
    intro k i hi hk
    obtain ⟨k, rfl⟩ : ∃ m, k = m + 1 := ⟨k - 1, by omega⟩
    have hlt : i < 20 := by omega
    obtain ⟨r, h1, h2⟩ := ih k (i + 1) (by omega) (by omega)
    have hwr : wrap64 ((i : Int) + 1) = ((i + 1 : Nat) : Int) := by unfold wrap64; omega
    simp only [spec_CodeOf.l0, slices_Index_string_string.l0]
    rw [if_pos (by omega), if_pos (by omega), if_pos (by omega), if_pos (by rw [hl]; omega), hw i hlt, hwr]
    simp only [Option.bind_some]
    by_cases e : (rdOf ByteArray.empty ws (i : Int)).toList = x.toList
    · exact ⟨(i : Int), by rw [if_pos e], by rw [if_pos e.symm]⟩
    · rw [if_neg e, if_neg (fun h => e h.symm)]
      exact ⟨r, h1, h2⟩
theorem FnExactCodeOf : laws_FnExactCodeOf.Pure := by
  intro a0 _
  obtain ⟨ws, h1, h2, h3⟩ := words_some
  obtain ⟨r, h4, h5⟩ := find_same ws h2 h3 a0 20 21 0 rfl (by omega)
  refine ⟨21, ?_⟩
  unfold laws_FnExactCodeOf.f spec_CodeOf.f impl_CodeOf.f slices_Index_string_string.f
  rw [h1]
  simp only [Option.bind_some, h2]
  split
  · rfl
  · have e4 : spec_CodeOf.l0 21 a0 0 = some r := h4
    have e5 : slices_Index_string_string.l0 21 ws a0 ((20 : Nat) : Int) 0 = some r := h5
    rw [e4, e5]
    simp
end Go.Proofs.Ytdanonhkkdijnaa.Pure
