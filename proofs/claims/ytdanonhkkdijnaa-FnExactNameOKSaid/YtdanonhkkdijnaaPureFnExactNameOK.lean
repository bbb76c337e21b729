/- NameOK answers as the reference's at every text: the plain form. No conditions. -/
import Derived.Test.YtdanonhkkdijnaaPFnExactNameOKx2
namespace Go.Proofs.Ytdanonhkkdijnaa.Pure
open Go.RowKit Go.Proofs.Ytdanonhkkdijnaa.PFnExactNameOK Go.Proofs.YtdanonhkkdijnaaW.PrintWords Go.Proofs.YtdanonhkkdijnaaW.PrintLast
def letB (c : Int) : Bool := decide (97 ≤ c ∧ c ≤ 122 ∨ 65 ≤ c ∧ c ≤ 90 ∨ c = 95)
def digB (c : Int) : Bool := decide (48 ≤ c ∧ c ≤ 57)
theorem letter_eq (c : Int) : spec_l00Letter.f c = some (letB c) := by
  unfold spec_l00Letter.f letB
  repeat' split
  all_goals simp only [Option.some.injEq]
  all_goals first | (symm; simp only [decide_eq_true_eq]; omega) | (rw [Bool.eq_iff_iff]; simp only [beq_iff_eq, decide_eq_true_eq]; omega)
theorem digit_eq (c : Int) : spec_l00Digit.f c = some (digB c) := by
  unfold spec_l00Digit.f digB
  split
  · simp only [Option.some.injEq]; rw [Bool.eq_iff_iff]; simp only [decide_eq_true_eq]; omega
  · simp only [Option.some.injEq]; symm; simp only [decide_eq_false_iff_not]; omega
theorem wrap_next {i : Int} {n : Nat} (h0 : 0 ≤ i) (h : i < (n : Int)) (hn : n ≤ 1048576) : wrap64 (i + 1) = i + 1 := by
  unfold wrap64
  omega
theorem impl_step (k : Nat) (s : ByteArray) (i : Int) (b : Bool) (h0 : 0 ≤ i) (h1 : i < (s.size : Int)) (hr : impl_NameOK.l0 k s (s.size : Int) (wrap64 (i + 1)) = some b) :
    impl_NameOK.l0 (k + 1) s (s.size : Int) i = some (if letB (bt s i) || (decide (i ≠ 0) && digB (bt s i)) then b else false) := by
  simp only [impl_NameOK.l0]
  rw [if_pos h1, if_pos h0, if_pos h1, hr]
  generalize bt s i = c
  unfold letB digB
  simp only [Bool.or_eq_true, Bool.and_eq_true, decide_eq_true_eq]
  repeat' split
  all_goals first | rfl | omega
theorem spec_step (k : Nat) (s : ByteArray) (i : Int) (b : Bool) (h0 : 0 ≤ i) (h1 : i < (s.size : Int)) (hr : spec_l00Word.l0 k s (wrap64 (i + 1)) = some b) :
    spec_l00Word.l0 (k + 1) s i = some (if letB (bt s i) || digB (bt s i) then b else false) := by
  simp only [spec_l00Word.l0]
  rw [if_pos h1, if_pos h0, letter_eq, digit_eq, hr]
  simp only [Option.bind_some]
  cases letB (bt s i) <;> cases digB (bt s i) <;> rfl
theorem impl_end (k : Nat) (s : ByteArray) : impl_NameOK.l0 (k + 1) s (s.size : Int) (s.size : Int) = some (decide (1 ≤ (s.size : Int) ∧ (s.size : Int) ≤ 40)) := by
  simp only [impl_NameOK.l0]
  rw [if_neg (by omega)]
  unfold impl_within.f
  by_cases h1 : (s.size : Int) ≥ 1 <;> by_cases h2 : (s.size : Int) ≤ 40 <;> simp [h1, h2]
/-- From place i on: both loops come to their ends, and they say the same. -/
theorem both (s : ByteArray) (hn : s.size ≤ 1048576) (d : Nat) : ∀ (k : Nat) (i : Int), 1 ≤ i → i ≤ s.size → (s.size : Int) - i = d → d < k →
    ∃ b : Bool, spec_l00Word.l0 k s i = some b ∧ impl_NameOK.l0 k s (s.size : Int) i = some (b && decide (1 ≤ (s.size : Int) ∧ (s.size : Int) ≤ 40)) := by
  induction d with
  | zero =>
    intro k i h0 h1 hd hk
    obtain ⟨k, rfl⟩ : ∃ m, k = m + 1 := ⟨k - 1, by omega⟩
    obtain rfl : i = (s.size : Int) := by omega
    exact ⟨true, by simp only [spec_l00Word.l0]; rw [if_neg (by omega)], by rw [impl_end, Bool.true_and]⟩
  | succ d ih =>
    intro k i h0 h1 hd hk
    obtain ⟨k, rfl⟩ : ∃ m, k = m + 1 := ⟨k - 1, by omega⟩
    have hi : i < (s.size : Int) := by omega
    have hw := wrap_next (by omega) hi hn
    obtain ⟨b, hs, hm⟩ := ih k (i + 1) (by omega) (by omega) (by omega) (by omega)
    rw [← hw] at hs hm
    have hne : decide (i ≠ 0) = true := by simp; omega
    refine ⟨_, spec_step k s i b (by omega) hi hs, ?_⟩
    rw [impl_step k s i _ (by omega) hi hm, hne, Bool.true_and]
    cases letB (bt s i) || digB (bt s i) <;> rfl
theorem FnExactNameOK : laws_FnExactNameOK.Pure := by
  intro s _
  by_cases hb : (s.size : Int) > 1048576
  · exact ⟨0, by unfold laws_FnExactNameOK.f; rw [if_pos hb]⟩
  · have hn : s.size ≤ 1048576 := by omega
    suffices h : ∃ k b, spec_NameOK.f k s = some b ∧ impl_NameOK.f k s = some b by
      obtain ⟨k, b, h1, h2⟩ := h
      refine ⟨k, ?_⟩
      unfold laws_FnExactNameOK.f
      rw [if_neg hb, h1, h2]
      simp
    unfold spec_NameOK.f spec_l00Word.f impl_NameOK.f
    by_cases h0 : (s.size : Int) < 1
    · have hz : (s.size : Int) = 0 := by omega
      refine ⟨1, false, by rw [if_pos h0]; rfl, ?_⟩
      have := impl_end 0 s
      rw [hz] at this ⊢
      rw [this]
      rfl
    · obtain ⟨b, hs, hm⟩ := both s hn (s.size - 1) s.size 1 (by omega) (by omega) (by omega) (by omega)
      have hw : wrap64 (0 + 1) = 1 := by unfold wrap64; omega
      have hstep := impl_step s.size s 0 _ (by omega) (by omega) (by rw [hw]; exact hm)
      refine ⟨s.size + 1, _, ?_, hstep⟩
      rw [if_neg h0]
      have hne : decide ((0 : Int) ≠ 0) = false := by simp
      rw [hne, Bool.false_and, Bool.or_false]
      by_cases h40 : (s.size : Int) > 40
      · rw [if_pos h40]
        have : decide (1 ≤ (s.size : Int) ∧ (s.size : Int) ≤ 40) = false := by simp; omega
        rw [this, Bool.and_false, ite_self]
        rfl
      · rw [if_neg h40, if_pos (by omega), letter_eq]
        simp only [Option.bind_some]
        have : decide (1 ≤ (s.size : Int) ∧ (s.size : Int) ≤ 40) = true := by simp; omega
        rw [this, Bool.and_true]
        simp only [spec_l00Word.j0, hs]
        cases letB (bt s 0) <;> simp
end Go.Proofs.Ytdanonhkkdijnaa.Pure
