/- FileData answers as the reference's at every disk and every name: the plain form. No conditions. -/
import Derived.Test.YtfjpkblkdlgaeaaQFnExactFileData
import Derived.Test.YtfjpkblkdlgaeaaU
namespace Go.Proofs.Ytfjpkblkdlgaeaa.Pure
open Go.RowKit Go.Proofs.Ytfjpkblkdlgaeaa.PFnExactFileData Go.Proofs.YtfjpkblkdlgaeaaW.PrintWords Go.Proofs.YtfjpkblkdlgaeaaW.PrintLast Go.Proofs.YtfjpkblkdlgaeaaW.PrintMore Go.Proofs.Ytfjpkblkdlgaeaa.U
set_option linter.unusedVariables false
set_option linter.unusedSimpArgs false
def letB (c : Int) : Bool := decide (97 ≤ c ∧ c ≤ 122 ∨ 65 ≤ c ∧ c ≤ 90 ∨ c = 95)
def digB (c : Int) : Bool := decide (48 ≤ c ∧ c ≤ 57)
theorem letter_eq (c : Int) : spec_l00Letter.f c = some (letB c) := by
  unfold spec_l00Letter.f letB
  repeat' split
  all_goals simp only [Option.some.injEq]
  all_goals first | (symm; simp only [decide_eq_true_eq]; omega) | (rw [Bool.eq_iff_iff]; simp only [beq_iff_eq, decide_eq_true_eq]; omega)
theorem digit_eq (c : Int) : spec_l00Digit.f c = some (digB c) := by
  unfold spec_l00Digit.f digB
  split
  · simp only [Option.some.injEq]; rw [Bool.eq_iff_iff]; simp only [decide_eq_true_eq]; omega
  · simp only [Option.some.injEq]; symm; simp only [decide_eq_false_iff_not]; omega
theorem wrap_next {i : Int} {n : Nat} (h0 : 0 ≤ i) (h : i < (n : Int)) (hn : n ≤ 1048576) : wrap64 (i + 1) = i + 1 := by
  unfold wrap64
  omega
theorem impl_step (k : Nat) (s : ByteArray) (i : Int) (b : Bool) (h0 : 0 ≤ i) (h1 : i < (s.size : Int)) (hr : impl_NameOK.l0 k s (s.size : Int) (wrap64 (i + 1)) = some b) :
    impl_NameOK.l0 (k + 1) s (s.size : Int) i = some (if letB (bt s i) || (decide (i ≠ 0) && digB (bt s i)) then b else false) := by
  simp only [impl_NameOK.l0]
  rw [if_pos h1, if_pos h0, if_pos h1, hr]
  generalize bt s i = c
  unfold letB digB
  simp only [Bool.or_eq_true, Bool.and_eq_true, decide_eq_true_eq]
  repeat' split
  all_goals first | rfl | omega
theorem spec_step (k : Nat) (s : ByteArray) (i : Int) (b : Bool) (h0 : 0 ≤ i) (h1 : i < (s.size : Int)) (hr : spec_l00Word.l0 k s (wrap64 (i + 1)) = some b) :
    spec_l00Word.l0 (k + 1) s i = some (if letB (bt s i) || digB (bt s i) then b else false) := by
  simp only [spec_l00Word.l0]
  rw [if_pos h1, if_pos h0, letter_eq, digit_eq, hr]
  simp only [Option.bind_some]
  cases letB (bt s i) <;> cases digB (bt s i) <;> rfl
theorem impl_end (k : Nat) (s : ByteArray) : impl_NameOK.l0 (k + 1) s (s.size : Int) (s.size : Int) = some (decide (1 ≤ (s.size : Int) ∧ (s.size : Int) ≤ 40)) := by
  simp only [impl_NameOK.l0]
  rw [if_neg (by omega)]
  unfold impl_within.f
  by_cases h1 : (s.size : Int) ≥ 1 <;> by_cases h2 : (s.size : Int) ≤ 40 <;> simp [h1, h2]
/-- From place i on: both loops come to their ends, and they say the same. -/
theorem both (s : ByteArray) (hn : s.size ≤ 1048576) (d : Nat) : ∀ (k : Nat) (i : Int), 1 ≤ i → i ≤ s.size → (s.size : Int) - i = d → d < k →
    ∃ b : Bool, spec_l00Word.l0 k s i = some b ∧ impl_NameOK.l0 k s (s.size : Int) i = some (b && decide (1 ≤ (s.size : Int) ∧ (s.size : Int) ≤ 40)) := by
  induction d with
  | zero =>
    intro k i h0 h1 hd hk
    obtain ⟨k, rfl⟩ : ∃ m, k = m + 1 := ⟨k - 1, by omega⟩
    obtain rfl : i = (s.size : Int) := by omega
    exact ⟨true, by simp only [spec_l00Word.l0]; rw [if_neg (by omega)], by rw [impl_end, Bool.true_and]⟩
  | succ d ih =>
    intro k i h0 h1 hd hk
    obtain ⟨k, rfl⟩ : ∃ m, k = m + 1 := ⟨k - 1, by omega⟩
    have hi : i < (s.size : Int) := by omega
    have hw := wrap_next (by omega) hi hn
    obtain ⟨b, hs, hm⟩ := ih k (i + 1) (by omega) (by omega) (by omega) (by omega)
    rw [← hw] at hs hm
    have hne : decide (i ≠ 0) = true := by simp; omega
    refine ⟨_, spec_step k s i b (by omega) hi hs, ?_⟩
    rw [impl_step k s i _ (by omega) hi hm, hne, Bool.true_and]
    cases letB (bt s i) || digB (bt s i) <;> rfl
theorem name_same (s : ByteArray) (hn : s.size ≤ 1048576) : ∃ b, Ev (fun k => spec_NameOK.f k s) b ∧ Ev (fun k => impl_NameOK.f k s) b := by
  suffices h : ∃ k b, spec_NameOK.f k s = some b ∧ impl_NameOK.f k s = some b by
    obtain ⟨k, b, h1, h2⟩ := h
    exact ⟨b, ev_mono (g := fun k => spec_NameOK.f k s) (fun k => spec_NameOK.mono _ k) h1, ev_mono (g := fun k => impl_NameOK.f k s) (fun k => impl_NameOK.mono _ k) h2⟩
  unfold spec_NameOK.f spec_l00Word.f impl_NameOK.f
  by_cases h0 : (s.size : Int) < 1
  · have hz : (s.size : Int) = 0 := by omega
    refine ⟨1, false, by rw [if_pos h0]; rfl, ?_⟩
    have := impl_end 0 s
    rw [hz] at this ⊢
    rw [this]
    rfl
  · obtain ⟨b, hs, hm⟩ := both s hn (s.size - 1) s.size 1 (by omega) (by omega) (by omega) (by omega)
    have hw : wrap64 (0 + 1) = 1 := by unfold wrap64; omega
    have hstep := impl_step s.size s 0 _ (by omega) (by omega) (by rw [hw]; exact hm)
    refine ⟨s.size + 1, _, ?_, hstep⟩
    rw [if_neg h0]
    have hne : decide ((0 : Int) ≠ 0) = false := by simp
    rw [hne, Bool.false_and, Bool.or_false]
    by_cases h40 : (s.size : Int) > 40
    · rw [if_pos h40]
      have : decide (1 ≤ (s.size : Int) ∧ (s.size : Int) ≤ 40) = false := by simp; omega
      rw [this, Bool.and_false, ite_self]
      rfl
    · rw [if_neg h40, if_pos (by omega), letter_eq]
      simp only [Option.bind_some]
      have : decide (1 ≤ (s.size : Int) ∧ (s.size : Int) ≤ 40) = true := by simp; omega
      rw [this, Bool.and_true]
      simp only [spec_l00Word.j0, hs]
      cases letB (bt s 0) <;> simp

def sizes (l : List S80) : Int := (l.map fun x => (x.f1.size : Int)).sum
theorem sizes_bound (l : List S80) (hB : ∀ x ∈ l, x.f0.size ≤ 1048576 ∧ x.f1.size ≤ 1048576) : 0 ≤ sizes l ∧ sizes l ≤ 1048576 * (l.length : Int) := by
  unfold sizes
  induction l with
  | nil => simp
  | cons x r ih =>
    have h1 := ih (fun y hy => hB y (List.mem_cons_of_mem _ hy))
    have h2 := hB x List.mem_cons_self
    simp only [List.map_cons, List.sum_cons, List.length_cons]
    omega
theorem sizes_mem (l : List S80) : ∀ x ∈ l, (x.f1.size : Int) ≤ sizes l := by
  unfold sizes
  induction l with
  | nil => intro x hx; simp at hx
  | cons y r ih =>
    have h0 : 0 ≤ (r.map fun x => (x.f1.size : Int)).sum := by
      clear ih
      induction r with
      | nil => simp
      | cons z q ih => simp only [List.map_cons, List.sum_cons]; omega
    intro x hx
    simp only [List.map_cons, List.sum_cons]
    rcases List.mem_cons.1 hx with rfl | hx
    · omega
    · have := ih x hx; omega
theorem rd_file (l : List S80) (i : Nat) (h : i < l.length) : rd_T80 l (i : Int) = l[i] := by
  unfold rd_T80
  rw [Int.toNat_natCast, List.getD_eq_getElem?_getD, List.getElem?_eq_getElem h, Option.getD_some]
theorem used_both (l : List S80) (room : Int) (hl : l.length ≤ 1048576) (hB : ∀ x ∈ l, x.f0.size ≤ 1048576 ∧ x.f1.size ≤ 1048576) (d : Nat) : ∀ (i : Nat) (v : Int), i + d = l.length → 0 ≤ v → v + sizes (l.drop i) ≤ 1099511627776 →
    Ev (fun k => spec_l03Used.l0 k v (i : Int) room l) (v + sizes (l.drop i)) ∧ Ev (fun k => impl_Disk_used.l0 k v l (l.length : Int) (i : Int)) (v + sizes (l.drop i)) := by
  induction d with
  | zero =>
    intro i v hi h0 h1
    have hd : sizes (l.drop i) = 0 := by rw [List.drop_eq_nil_of_le (by omega)]; rfl
    rw [hd, Int.add_zero]
    exact ⟨ev_succ (ev_of_eq fun k => by simp only [spec_l03Used.l0]; rw [if_neg (by omega)]), ev_succ (ev_of_eq fun k => by simp only [impl_Disk_used.l0]; rw [if_neg (by omega)])⟩
  | succ d ih =>
    intro i v hi h0 h1
    have hlt : i < l.length := by omega
    have hdrop : l.drop i = l[i] :: l.drop (i + 1) := List.drop_eq_getElem_cons hlt
    have hs : sizes (l.drop i) = (l[i].f1.size : Int) + sizes (l.drop (i + 1)) := by rw [hdrop]; rfl
    have hnn := (sizes_bound (l.drop (i + 1)) (fun x hx => hB x (List.mem_of_mem_drop hx))).1
    have hw : wrap64 ((i : Int) + 1) = ((i + 1 : Nat) : Int) := by rw [wrap_in (by omega) (by omega)]; omega
    have hv : wrap64 (v + (l[i].f1.size : Int)) = v + (l[i].f1.size : Int) := wrap_in (by omega) (by omega)
    obtain ⟨e1, e2⟩ := ih (i + 1) (v + (l[i].f1.size : Int)) (by omega) (by omega) (by omega)
    rw [hs, ← Int.add_assoc]
    refine ⟨ev_succ ?_, ev_succ ?_⟩
    · simp only [spec_l03Used.l0, rd_file l i hlt, hv, hw]
      exact ev_if_pos (by omega) (ev_if_pos (by omega) e1)
    · simp only [impl_Disk_used.l0, rd_file l i hlt, hv, hw]
      exact ev_if_pos (by omega) (ev_if_pos (by omega) (ev_if_pos (by omega) e2))
theorem used_same (l : List S80) (room : Int) (hl : l.length ≤ 1048576) (hB : ∀ x ∈ l, x.f0.size ≤ 1048576 ∧ x.f1.size ≤ 1048576) :
    Ev (fun k => spec_l03Used.f k room l) (sizes l) ∧ Ev (fun k => impl_Disk_used.f k room l) (sizes l) := by
  have hb := sizes_bound l hB
  have := used_both l room hl hB l.length 0 0 (by omega) (by omega) (by rw [List.drop_zero]; omega)
  rw [List.drop_zero, Int.zero_add] at this
  exact this
theorem in_eq (a b c : Int) : spec_l01In.f a b c = some (decide (b ≤ a ∧ a ≤ c)) := by
  unfold spec_l01In.f
  split <;> simp only [Option.some.injEq] <;> rw [Bool.eq_iff_iff] <;> simp <;> omega
theorem within_eq (a b c : Int) : impl_within.f a b c = some (decide (b ≤ a ∧ a ≤ c)) := by
  unfold impl_within.f
  split <;> simp only [Option.some.injEq] <;> rw [Bool.eq_iff_iff] <;> simp <;> omega
/-- From file i on: the reference asks for the size of each besides, and at the end for the sum. -/
theorem files_both (l : List S80) (room : Int) (hl : l.length ≤ 1048576) (hB : ∀ x ∈ l, x.f0.size ≤ 1048576 ∧ x.f1.size ≤ 1048576) (d : Nat) : ∀ i : Nat, i + d = l.length →
    ∃ b c : Bool, Ev (fun k => impl_DiskOK.l0 k l (l.length : Int) (i : Int) room l) b ∧ Ev (fun k => spec_DiskOK.l0 k (i : Int) room l) c ∧ (c = true ↔ b = true ∧ (∀ x ∈ l.drop i, (x.f1.size : Int) ≤ 3000) ∧ sizes l ≤ room) := by
  induction d with
  | zero =>
    intro i hi
    refine ⟨true, decide (sizes l ≤ room), ev_succ (ev_of_eq fun k => ?_), ev_succ ?_, ?_⟩
    · simp only [impl_DiskOK.l0]; rw [if_neg (by omega)]
    · simp only [spec_DiskOK.l0]
      exact ev_if_neg (by omega) (ev_bind (used_same l room hl hB).1 (ev_some _))
    · rw [List.drop_eq_nil_of_le (by omega)]; simp
  | succ d ih =>
    intro i hi
    have hlt : i < l.length := by omega
    have hi1 : (i : Int) < (l.length : Int) := by omega
    have hi0 : 0 ≤ (i : Int) := by omega
    have hdrop : l.drop i = l[i] :: l.drop (i + 1) := List.drop_eq_getElem_cons hlt
    have hw : wrap64 ((i : Int) + 1) = ((i + 1 : Nat) : Int) := by rw [wrap_in (by omega) (by omega)]; omega
    have hp : wrap64 ((i : Int) - 1) = (i : Int) - 1 := wrap_in (by omega) (by omega)
    have hsz := hB l[i] (List.getElem_mem hlt)
    obtain ⟨b, c, hm, hs, hbc⟩ := ih (i + 1) (by omega)
    obtain ⟨r, n1, n2⟩ := name_same l[i].f0 hsz.1
    cases r with
    | false =>
      refine ⟨false, false, ev_succ ?_, ev_succ ?_, by simp⟩
      · simp only [impl_DiskOK.l0, rd_file l i hlt]
        exact ev_if_pos hi1 (ev_if_pos hi0 (ev_if_pos hi1 (ev_bind n2 (ev_if_neg (by simp) (ev_some _)))))
      · simp only [spec_DiskOK.l0, rd_file l i hlt]
        exact ev_if_pos hi1 (ev_if_pos hi0 (ev_bind n1 (ev_if_neg (by simp) (ev_some _))))
    | true =>
      by_cases c1 : 0 ≤ l[i].f2 ∧ l[i].f2 ≤ (l[i].f1.size : Int)
      · have k1 : decide (0 ≤ l[i].f2 ∧ l[i].f2 ≤ (l[i].f1.size : Int)) = true := decide_eq_true c1
        by_cases c2 : (i : Int) > 0
        · by_cases c3 : Op.bytesLess ((rd_T80 l ((i : Int) - 1)).f0.toList) (l[i].f0.toList) = true
          · by_cases c4 : (l[i].f1.size : Int) > 3000
            · refine ⟨b, false, ev_succ ?_, ev_succ ?_, ?_⟩
              · simp only [impl_DiskOK.l0, rd_file l i hlt, hp, hw, within_eq, k1, Option.bind_some]
                exact ev_if_pos hi1 (ev_if_pos hi0 (ev_if_pos hi1 (ev_bind n2 (ev_if_pos rfl (ev_if_pos c2 (ev_if_pos (by omega) (ev_if_pos (by omega) (ev_if_pos c3 (ev_if_pos trivial hm)))))))))
              · simp only [spec_DiskOK.l0, rd_file l i hlt, hp, hw, in_eq, k1, Option.bind_some]
                exact ev_if_pos hi1 (ev_if_pos hi0 (ev_bind n1 (ev_if_pos rfl (ev_if_pos trivial (ev_if_pos c4 (ev_some _))))))
              · rw [hdrop]
                simp only [Bool.false_eq_true, List.mem_cons, forall_eq_or_imp, false_iff]
                omega
            · refine ⟨b, c, ev_succ ?_, ev_succ ?_, ?_⟩
              · simp only [impl_DiskOK.l0, rd_file l i hlt, hp, hw, within_eq, k1, Option.bind_some]
                exact ev_if_pos hi1 (ev_if_pos hi0 (ev_if_pos hi1 (ev_bind n2 (ev_if_pos rfl (ev_if_pos c2 (ev_if_pos (by omega) (ev_if_pos (by omega) (ev_if_pos c3 (ev_if_pos trivial hm)))))))))
              · simp only [spec_DiskOK.l0, rd_file l i hlt, hp, hw, in_eq, k1, Option.bind_some]
                exact ev_if_pos hi1 (ev_if_pos hi0 (ev_bind n1 (ev_if_pos rfl (ev_if_pos trivial (ev_if_neg c4 (ev_if_pos c2 (ev_if_pos (by omega) (ev_if_pos (by omega) (ev_if_pos c3 hs)))))))))
              · rw [hdrop, hbc]
                simp only [List.mem_cons, forall_eq_or_imp]
                constructor
                · rintro ⟨x, y, z⟩; exact ⟨x, ⟨by omega, y⟩, z⟩
                · rintro ⟨x, ⟨_, y⟩, z⟩; exact ⟨x, y, z⟩
          · have c4 : True := trivial
            refine ⟨false, false, ev_succ ?_, ev_succ ?_, by simp⟩
            · simp only [impl_DiskOK.l0, rd_file l i hlt, hp, hw, within_eq, k1, Option.bind_some]
              exact ev_if_pos hi1 (ev_if_pos hi0 (ev_if_pos hi1 (ev_bind n2 (ev_if_pos rfl (ev_if_pos c2 (ev_if_pos (by omega) (ev_if_pos (by omega) (ev_if_neg c3 (ev_some _)))))))))
            · simp only [spec_DiskOK.l0, rd_file l i hlt, hp, hw, in_eq, k1, Option.bind_some]
              refine ev_if_pos hi1 (ev_if_pos hi0 (ev_bind n1 (ev_if_pos rfl (ev_if_pos trivial ?_))))
              by_cases c4 : (l[i].f1.size : Int) > 3000
              · exact ev_if_pos c4 (ev_some _)
              · exact ev_if_neg c4 (ev_if_pos c2 (ev_if_pos (by omega) (ev_if_pos (by omega) (ev_if_neg c3 (ev_some _)))))
        · by_cases c4 : (l[i].f1.size : Int) > 3000
          · refine ⟨b, false, ev_succ ?_, ev_succ ?_, ?_⟩
            · simp only [impl_DiskOK.l0, rd_file l i hlt, hp, hw, within_eq, k1, Option.bind_some]
              exact ev_if_pos hi1 (ev_if_pos hi0 (ev_if_pos hi1 (ev_bind n2 (ev_if_pos rfl (ev_if_neg c2 (ev_if_pos trivial hm))))))
            · simp only [spec_DiskOK.l0, rd_file l i hlt, hp, hw, in_eq, k1, Option.bind_some]
              exact ev_if_pos hi1 (ev_if_pos hi0 (ev_bind n1 (ev_if_pos rfl (ev_if_pos trivial (ev_if_pos c4 (ev_some _))))))
            · rw [hdrop]
              simp only [Bool.false_eq_true, List.mem_cons, forall_eq_or_imp, false_iff]
              omega
          · refine ⟨b, c, ev_succ ?_, ev_succ ?_, ?_⟩
            · simp only [impl_DiskOK.l0, rd_file l i hlt, hp, hw, within_eq, k1, Option.bind_some]
              exact ev_if_pos hi1 (ev_if_pos hi0 (ev_if_pos hi1 (ev_bind n2 (ev_if_pos rfl (ev_if_neg c2 (ev_if_pos trivial hm))))))
            · simp only [spec_DiskOK.l0, rd_file l i hlt, hp, hw, in_eq, k1, Option.bind_some]
              exact ev_if_pos hi1 (ev_if_pos hi0 (ev_bind n1 (ev_if_pos rfl (ev_if_pos trivial (ev_if_neg c4 (ev_if_neg c2 hs))))))
            · rw [hdrop, hbc]
              simp only [List.mem_cons, forall_eq_or_imp]
              constructor
              · rintro ⟨x, y, z⟩; exact ⟨x, ⟨by omega, y⟩, z⟩
              · rintro ⟨x, ⟨_, y⟩, z⟩; exact ⟨x, y, z⟩
      · have k1 : decide (0 ≤ l[i].f2 ∧ l[i].f2 ≤ (l[i].f1.size : Int)) = false := decide_eq_false c1
        refine ⟨false, false, ev_succ ?_, ev_succ ?_, by simp⟩
        · simp only [impl_DiskOK.l0, rd_file l i hlt, hp, hw, within_eq, k1, Option.bind_some]
          refine ev_if_pos hi1 (ev_if_pos hi0 (ev_if_pos hi1 (ev_bind n2 (ev_if_pos rfl ?_))))
          by_cases c2 : (i : Int) > 0
          · refine ev_if_pos c2 (ev_if_pos (by omega) (ev_if_pos (by omega) ?_))
            by_cases c3 : Op.bytesLess ((rd_T80 l ((i : Int) - 1)).f0.toList) (l[i].f0.toList) = true
            · exact ev_if_pos c3 (ev_if_neg (by simp) (ev_some _))
            · exact ev_if_neg c3 (ev_some _)
          · exact ev_if_neg c2 (ev_if_neg (by simp) (ev_some _))
        · simp only [spec_DiskOK.l0, rd_file l i hlt, hp, hw, in_eq, k1, Option.bind_some]
          exact ev_if_pos hi1 (ev_if_pos hi0 (ev_bind n1 (ev_if_pos rfl (ev_if_neg (by simp) (ev_some _)))))
theorem disk_same (room : Int) (l : List S80) (hl : l.length ≤ 1048576) (hB : ∀ x ∈ l, x.f0.size ≤ 1048576 ∧ x.f1.size ≤ 1048576) : ∃ b, Ev (fun k => spec_DiskOK.f k room l) b ∧ Ev (fun k => impl_DiskOK.f k room l) b := by
  unfold spec_DiskOK.f impl_DiskOK.f
  rw [in_eq, within_eq]
  simp only [Option.bind_some]
  have sbad : Ev (fun k => spec_DiskOK.j0 k true room l) false := by
    refine ev_succ ?_
    simp only [spec_DiskOK.j0]
    exact ev_if_pos trivial (ev_some _)
  have ibad : Ev (fun k => impl_DiskOK.j0 k true room l) false := by
    refine ev_succ ?_
    simp only [impl_DiskOK.j0]
    exact ev_if_pos trivial (ev_some _)
  by_cases c1 : 0 ≤ room ∧ room ≤ 3000
  · rw [decide_eq_true c1]
    by_cases c2 : (l.length : Int) > 8
    · rw [decide_eq_true c2]
      exact ⟨false, ev_if_pos rfl sbad, ev_if_pos rfl (ev_if_pos c2 ibad)⟩
    · rw [decide_eq_false c2]
      obtain ⟨b, c, hm, hs, hbc⟩ := files_both l room hl hB l.length 0 (by omega)
      have hs' : Ev (fun k => spec_DiskOK.j0 k false room l) c := by
        refine ev_succ ?_
        simp only [spec_DiskOK.j0]
        exact ev_if_neg (by simp) hs
      by_cases c3 : sizes l > room
      · have hc : c = false := by
          rw [Bool.eq_false_iff]
          intro h
          have := (hbc.1 h).2.2
          omega
        subst hc
        refine ⟨false, ev_if_pos rfl hs', ev_if_pos rfl (ev_if_neg c2 (ev_bind (used_same l room hl hB).2 ?_))⟩
        rw [decide_eq_true c3]
        exact ibad
      · have hc : c = b := by
          rw [Bool.eq_iff_iff, hbc]
          have hall : ∀ x ∈ l.drop 0, (x.f1.size : Int) ≤ 3000 := fun x hx => by
            have := sizes_mem l x (by simpa using hx)
            omega
          constructor
          · exact fun h => h.1
          · exact fun h => ⟨h, hall, by omega⟩
        subst hc
        refine ⟨c, ev_if_pos rfl hs', ev_if_pos rfl (ev_if_neg c2 (ev_bind (used_same l room hl hB).2 ?_))⟩
        rw [decide_eq_false c3]
        refine ev_succ ?_
        simp only [impl_DiskOK.j0]
        exact ev_if_neg (by simp) hm
  · rw [decide_eq_false c1]
    exact ⟨false, ev_if_neg (by simp) sbad, ev_if_neg (by simp) ibad⟩
def convFile (x : S105) : S80 := ⟨x.f0, x.f1, x.f2⟩
theorem toFileS_ev (l : List S105) (hl : l.length ≤ 1048576) : Ev (fun k => laws_toFileS.f k l) (l.map convFile) := by
  have hml : (l.map convFile).length = l.length := List.length_map _
  have key := ev_loop (fun k (s : List S80 × Int) => laws_toFileS.l0 k l s.1 s.2) (fun s => 0 ≤ s.2 ∧ s.2 ≤ l.length ∧ s.1.length = l.length ∧ ∀ j : Nat, j < s.2.toNat → s.1[j]? = (l.map convFile)[j]?) (fun s => l.length - s.2.toNat) (fun _ => l.map convFile) (by
    rintro ⟨x, i⟩ ⟨h0, h1, h2, h3⟩
    simp only at h0 h1 h2 h3
    by_cases hi : i < (l.length : Int)
    · right
      obtain ⟨hs1, hs2⟩ := copy_step (l.map convFile) x i.toNat (convFile z105) (by rw [hml]; exact h2) (by rw [hml]; omega) h3
      have hg : (l.map convFile).getD i.toNat (convFile z105) = convFile (rd_T105 l i) := by
        unfold rd_T105
        rw [List.getD_eq_getElem?_getD, List.getD_eq_getElem?_getD, List.getElem?_map]
        cases l[i.toNat]? <;> rfl
      rw [hg] at hs1 hs2
      rw [hml] at hs1
      refine ⟨(x.set i.toNat (convFile (rd_T105 l i)), i + 1), ⟨by simp only; omega, by simp only; omega, hs1, fun j hj => hs2 j (by simp only at hj; omega)⟩, by simp only; omega, rfl, 0, fun j _ => ?_⟩
      show laws_toFileS.l0 (j + 1) l x i = _
      simp only [laws_toFileS.l0, laws_toFile.f, Option.bind_some]
      rw [if_pos (by omega), if_pos h0, if_pos (by omega), wrap_in (x := i + 1) (by omega) (by omega)]
      rfl
    · left
      refine ⟨0, fun j _ => ?_⟩
      show laws_toFileS.l0 (j + 1) l x i = _
      simp only [laws_toFileS.l0]
      rw [if_neg (by omega), copy_end (l.map convFile) x (by rw [hml]; exact h2) (fun j hj => h3 j (by rw [hml] at hj; omega))])
  have := key (List.replicate l.length z80, 0) ⟨by simp, by simp, by simp, fun j hj => absurd hj (by simp)⟩
  refine ev_congr (fun k => ?_) this
  unfold laws_toFileS.f
  rw [if_pos (by omega), if_pos (by omega), Int.toNat_natCast]

/-- The texts of one are no longer than what is left. -/
def BFile (x : S105) (n : Int) : Prop := (x.f0.size : Int) ≤ n ∧ (x.f1.size : Int) ≤ n
theorem szFile_some (x : S105) (hg : g105 x) (n : Int) (h0 : 0 ≤ n) (h1 : n ≤ 1048576) : ∃ s, laws_szFile.f x.f0 x.f1 x.f2 n = some s ∧ s ≤ n ∧ (0 ≤ s ∨ s = -1) ∧ (0 ≤ s → BFile x n) := by
  unfold laws_szFile.f BFile
  have hb0 : x.f0.size ≤ maxLen := hg.1
  have hb1 : x.f1.size ≤ maxLen := hg.2.1
  unfold maxLen at *
  have hw0 : wrap64 (n - (x.f0.size : Int)) = n - (x.f0.size : Int) := wrap_in (by omega) (by omega)
  by_cases c0 : n - (x.f0.size : Int) < 0
  · refine ⟨-1, ?_, by omega, .inr rfl, fun h => absurd h (by omega)⟩
    simp only [hw0]
    rw [if_pos c0]
  · skip
    have hw1 : wrap64 (n - (x.f0.size : Int) - (x.f1.size : Int)) = n - (x.f0.size : Int) - (x.f1.size : Int) := wrap_in (by omega) (by omega)
    by_cases c1 : n - (x.f0.size : Int) - (x.f1.size : Int) < 0
    · refine ⟨-1, ?_, by omega, .inr rfl, fun h => absurd h (by omega)⟩
      simp only [hw0, hw1]
      rw [if_neg c0]
      rw [if_pos c1]
    · skip
      refine ⟨n - (x.f0.size : Int) - (x.f1.size : Int), ?_, by omega, .inl (by omega), fun _ => ⟨by omega, by omega⟩⟩
      simp only [hw0, hw1]
      rw [if_neg c0]
      rw [if_neg c1]

theorem szFileS_ev (l : List S105) (hg : Open.GL g105 l) (n : Int) (h0 : 0 ≤ n) (h1 : n ≤ 1048576) : ∃ s, Ev (fun k => laws_szFileS.f k l n) s ∧ (s = -1 ∨ 0 ≤ s ∧ (l.length : Int) ≤ n ∧ s ≤ n ∧ ∀ x ∈ l, BFile x n) := by
  have hm := hg.1
  unfold maxLen at hm
  have hw : wrap64 (n - (l.length : Int)) = n - (l.length : Int) := wrap_in (by omega) (by omega)
  by_cases hneg : n - (l.length : Int) < 0
  · exact ⟨-1, ev_of_eq fun k => by unfold laws_szFileS.f; rw [hw, if_pos hneg], .inl rfl⟩
  · have key : ∀ (d i : Nat) (v : Int), i + d = l.length → 0 ≤ v → v ≤ n → ∃ s, Ev (fun k => laws_szFileS.l0 k l v (i : Int)) s ∧ (s = -1 ∨ 0 ≤ s ∧ s ≤ n ∧ ∀ x ∈ l.drop i, BFile x n) := by
      intro d
      induction d with
      | zero =>
        intro i v hi hv0 hv1
        exact ⟨v, ev_succ (ev_of_eq fun k => by simp only [laws_szFileS.l0]; rw [if_neg (by omega)]), .inr ⟨hv0, hv1, fun x hx => by rw [List.drop_eq_nil_of_le (by omega)] at hx; simp at hx⟩⟩
      | succ d ih =>
        intro i v hi hv0 hv1
        have hmem : rd_T105 l (i : Int) ∈ l := by
          unfold rd_T105
          rw [Int.toNat_natCast, List.getD_eq_getElem?_getD, List.getElem?_eq_getElem (by omega), Option.getD_some]
          exact List.getElem_mem _
        obtain ⟨s, hs, hle, hor, hB⟩ := szFile_some (rd_T105 l (i : Int)) (hg.2 _ hmem) v hv0 (by omega)
        by_cases hs0 : s < 0
        · refine ⟨-1, ev_succ (ev_of_eq fun k => ?_), .inl rfl⟩
          simp only [laws_szFileS.l0, hs, Option.bind_some]
          rw [if_pos (by omega), if_pos (by omega), if_pos hs0]
        · obtain ⟨r, hr, hrn⟩ := ih (i + 1) s (by omega) (by omega) (by omega)
          refine ⟨r, ev_succ (ev_congr (fun k => ?_) hr), ?_⟩
          · simp only [laws_szFileS.l0, hs, Option.bind_some]
            rw [if_pos (by omega), if_pos (by omega), if_neg hs0, wrap_in (x := (i : Int) + 1) (by omega) (by omega)]
            rfl
          · rcases hrn with h | ⟨ha, hb, hall⟩
            · exact .inl h
            · refine .inr ⟨ha, hb, fun x hx => ?_⟩
              rw [List.drop_eq_getElem_cons (by omega)] at hx
              rcases List.mem_cons.1 hx with rfl | hx
              · have hq := hB (by omega)
                unfold rd_T105 at hq
                rw [Int.toNat_natCast, List.getD_eq_getElem?_getD, List.getElem?_eq_getElem (by omega), Option.getD_some] at hq
                unfold BFile at hq ⊢
                omega
              · exact hall x hx
    obtain ⟨s, hs, hsn⟩ := key l.length 0 (n - (l.length : Int)) (by omega) (by omega) (by omega)
    refine ⟨s, ev_congr (fun k => ?_) hs, ?_⟩
    · unfold laws_szFileS.f
      rw [hw, if_neg hneg]
      rfl
    · rcases hsn with h | ⟨ha, hb, hall⟩
      · exact .inl h
      · exact .inr ⟨ha, by omega, hb, fun x hx => hall x (by simpa using hx)⟩

theorem szDisk_ev (a : Int) (l : List S105) (hg : Open.GL g105 l) (n : Int) (h0 : 0 ≤ n) (h1 : n ≤ 1048576) : ∃ s, Ev (fun k => laws_szDisk.f k a l n) s ∧ (s = -1 ∨ 0 ≤ s ∧ (l.length : Int) ≤ n ∧ s ≤ n ∧ ∀ x ∈ l, BFile x n) := by
  obtain ⟨s, hs, hh⟩ := szFileS_ev l hg n h0 h1
  unfold laws_szDisk.f
  by_cases hneg : s < 0
  · exact ⟨-1, ev_bind hs (ev_if_pos hneg (ev_some _)), .inl rfl⟩
  · exact ⟨s, ev_bind hs (ev_if_neg hneg (ev_some _)), hh⟩
theorem toDisk_ev (a : Int) (l : List S105) (hl : l.length ≤ 1048576) : Ev (fun k => laws_toDisk.f k a l) (a, l.map convFile) := by
  unfold laws_toDisk.f
  exact ev_bind (toFileS_ev l hl) (ev_some _)
theorem conv_bound (l : List S105) (n : Int) (h1 : n ≤ 1048576) (h : ∀ x ∈ l, BFile x n) : ∀ y ∈ l.map convFile, y.f0.size ≤ 1048576 ∧ y.f1.size ≤ 1048576 := by
  intro y hy
  obtain ⟨x, hx, rfl⟩ := List.mem_map.1 hy
  have := h x hx
  unfold BFile at this
  show x.f0.size ≤ 1048576 ∧ x.f1.size ≤ 1048576
  omega

theorem cb_zero : ∀ x y : List UInt8, Lib.compareBytes x y = 0 ↔ x = y
  | [], [] => by simp [Lib.compareBytes]
  | [], _ :: _ => by simp [Lib.compareBytes]
  | _ :: _, [] => by simp [Lib.compareBytes]
  | a :: x, b :: y => by
    simp only [Lib.compareBytes]
    by_cases h1 : a < b
    · rw [if_pos h1]
      have : a ≠ b := fun h => by subst h; exact absurd h1 (UInt8.lt_irrefl _)
      simp [this]
    · rw [if_neg h1]
      by_cases h2 : b < a
      · rw [if_pos h2]
        have : a ≠ b := fun h => by subst h; exact absurd h2 (UInt8.lt_irrefl _)
        simp [this]
      · rw [if_neg h2]
        have : a = b := UInt8.le_antisymm (UInt8.not_lt.1 h2) (UInt8.not_lt.1 h1)
        rw [cb_zero x y]
        simp [this]
theorem bl_less : ∀ x y : List UInt8, Op.bytesLess x y = true ↔ Lib.compareBytes x y < 0
  | [], [] => by simp [Lib.compareBytes, Op.bytesLess]
  | [], _ :: _ => by simp [Lib.compareBytes, Op.bytesLess]
  | _ :: _, [] => by simp [Lib.compareBytes, Op.bytesLess]
  | a :: x, b :: y => by
    simp only [Lib.compareBytes, Op.bytesLess]
    by_cases h1 : a < b
    · simp [h1]
    · rw [if_neg h1]
      by_cases h2 : b < a
      · rw [if_pos h2]
        have : a ≠ b := fun h => by subst h; exact absurd h2 (UInt8.lt_irrefl _)
        simp [h1, this]
      · rw [if_neg h2]
        have : a = b := UInt8.le_antisymm (UInt8.not_lt.1 h2) (UInt8.not_lt.1 h1)
        have := bl_less x y
        simp [h1, ‹a = b›, this]
theorem cb_trans : ∀ x y z : List UInt8, Lib.compareBytes x y < 0 → Lib.compareBytes y z < 0 → Lib.compareBytes x z < 0
  | [], y, [], h1, h2 => by cases y <;> simp [Lib.compareBytes] at h1 h2
  | [], _, _ :: _, _, _ => by simp [Lib.compareBytes]
  | _ :: _, [], _, h1, _ => by simp [Lib.compareBytes] at h1
  | _ :: _, _ :: _, [], _, h2 => by simp [Lib.compareBytes] at h2
  | a :: x, b :: y, c :: z, h1, h2 => by
    simp only [Lib.compareBytes] at h1 h2 ⊢
    by_cases p1 : a < b
    · by_cases p2 : b < c
      · rw [if_pos (UInt8.lt_trans p1 p2)]; decide
      · rw [if_neg p2] at h2
        by_cases p3 : c < b
        · rw [if_pos p3] at h2; exact absurd h2 (by decide)
        · have e : b = c := UInt8.le_antisymm (UInt8.not_lt.1 p3) (UInt8.not_lt.1 p2)
          subst e
          rw [if_pos p1]; decide
    · rw [if_neg p1] at h1
      by_cases p2 : b < a
      · rw [if_pos p2] at h1; exact absurd h1 (by decide)
      · rw [if_neg p2] at h1
        have e : a = b := UInt8.le_antisymm (UInt8.not_lt.1 p2) (UInt8.not_lt.1 p1)
        subst e
        by_cases p3 : a < c
        · rw [if_pos p3]; decide
        · rw [if_neg p3] at h2 ⊢
          by_cases p4 : c < a
          · rw [if_pos p4] at h2; exact absurd h2 (by decide)
          · rw [if_neg p4] at h2 ⊢
            exact cb_trans x y z h1 h2
theorem cmp_zero (a b : ByteArray) : impl_Disk_fileAt.cmp a b = 0 ↔ a = b := by
  unfold impl_Disk_fileAt.cmp
  rw [cb_zero]
  constructor
  · intro h; exact ByteArray.ext (Array.toList_inj.1 h)
  · intro h; rw [h]
theorem cmp_less (a b : ByteArray) : Op.bytesLess a.toList b.toList = true ↔ impl_Disk_fileAt.cmp a b < 0 := by
  unfold impl_Disk_fileAt.cmp
  rw [ByteArray.toList_eq, ByteArray.toList_eq, bl_less]
theorem cmp_trans (a b c : ByteArray) (h1 : impl_Disk_fileAt.cmp a b < 0) (h2 : impl_Disk_fileAt.cmp b c < 0) : impl_Disk_fileAt.cmp a c < 0 := cb_trans _ _ _ h1 h2
/-- The names rise. -/
def Rising (l : List S80) : Prop := ∀ j : Nat, 0 < j → j < l.length → impl_Disk_fileAt.cmp (rd_T80 l ((j - 1 : Nat) : Int)).f0 (rd_T80 l (j : Int)).f0 < 0
theorem rising_from (l : List S80) (room : Int) (hl : l.length ≤ 1048576) (k : Nat) : ∀ i : Nat, impl_DiskOK.l0 k l (l.length : Int) (i : Int) room l = some true → ∀ j : Nat, i ≤ j → 0 < j → j < l.length → impl_Disk_fileAt.cmp (rd_T80 l ((j - 1 : Nat) : Int)).f0 (rd_T80 l (j : Int)).f0 < 0 := by
  induction k with
  | zero => intro i h; simp [impl_DiskOK.l0] at h
  | succ k ih =>
    intro i h j hij h0 hj
    simp only [impl_DiskOK.l0] at h
    have hw : wrap64 ((i : Int) + 1) = ((i + 1 : Nat) : Int) := by rw [wrap_in (by omega) (by omega)]; omega
    rw [if_pos (by omega), if_pos (by omega), if_pos (by omega), hw] at h
    replace h := Option.bind_eq_some_iff.mp h
    obtain ⟨t, ht, h⟩ := h
    by_cases c1 : t = true
    · rw [if_pos c1] at h
      by_cases c2 : (i : Int) > 0
      · have hp : wrap64 ((i : Int) - 1) = ((i - 1 : Nat) : Int) := by rw [wrap_in (by omega) (by omega)]; omega
        rw [if_pos c2, hp, if_pos (by omega), if_pos (by omega)] at h
        by_cases c3 : Op.bytesLess ((rd_T80 l ((i - 1 : Nat) : Int)).f0.toList) ((rd_T80 l (i : Int)).f0.toList) = true
        · rw [if_pos c3] at h
          replace h := Option.bind_eq_some_iff.mp h
          obtain ⟨u, hu, h⟩ := h
          by_cases c4 : u = true
          · rw [if_pos c4] at h
            rcases Nat.eq_or_lt_of_le hij with rfl | hlt
            · exact (cmp_less _ _).1 c3
            · exact ih (i + 1) h j (by omega) h0 hj
          · rw [if_neg c4] at h; simp at h
        · rw [if_neg c3] at h; simp at h
      · rw [if_neg c2] at h
        replace h := Option.bind_eq_some_iff.mp h
        obtain ⟨u, hu, h⟩ := h
        by_cases c4 : u = true
        · rw [if_pos c4] at h
          exact ih (i + 1) h j (by omega) h0 hj
        · rw [if_neg c4] at h; simp at h
    · rw [if_neg c1] at h; simp at h
/-- A disk that is right has at most eight files, and their names rise. -/
theorem disk_rising (room : Int) (l : List S80) (hl : l.length ≤ 1048576) (h : Ev (fun k => impl_DiskOK.f k room l) true) : Rising l ∧ l.length ≤ 8 := by
  obtain ⟨K, h⟩ := h
  replace h := h (K + 1) (by omega)
  simp only [impl_DiskOK.f] at h
  replace h := Option.bind_eq_some_iff.mp h
  obtain ⟨t, ht, h⟩ := h
  have jbad : ∀ k, impl_DiskOK.j0 k true room l ≠ some true := fun k => by
    cases k with
    | zero => simp [impl_DiskOK.j0]
    | succ k => simp only [impl_DiskOK.j0]; rw [if_pos (by first | rfl | trivial)]; simp
  by_cases c1 : t = true
  · rw [if_pos c1] at h
    by_cases c2 : (l.length : Int) > 8
    · rw [if_pos c2] at h; exact absurd h (jbad _)
    · rw [if_neg c2] at h
      replace h := Option.bind_eq_some_iff.mp h
      obtain ⟨u, hu, h⟩ := h
      by_cases c3 : u > room
      · rw [decide_eq_true c3] at h; exact absurd h (jbad _)
      · rw [decide_eq_false c3] at h
        simp only [impl_DiskOK.j0] at h
        rw [if_neg (by simp)] at h
        exact ⟨fun j h0 hj => rising_from l room hl _ 0 h j (by omega) h0 hj, by omega⟩
  · rw [if_neg c1] at h; exact absurd h (jbad _)
theorem rising_less (l : List S80) (h : Rising l) (d : Nat) : ∀ i : Nat, i + d + 1 < l.length → impl_Disk_fileAt.cmp (rd_T80 l (i : Int)).f0 (rd_T80 l ((i + d + 1 : Nat) : Int)).f0 < 0 := by
  induction d with
  | zero => intro i hi; exact h (i + 1) (by omega) hi
  | succ d ih =>
    intro i hi
    have h1 := ih i (by omega)
    have h2 := h (i + (d + 1) + 1) (by omega) hi
    exact cmp_trans _ _ _ h1 h2
/-- Below a name: if one is, all ahead of it are. -/
theorem below_down (l : List S80) (h : Rising l) (x : ByteArray) (i j : Nat) (hij : i ≤ j) (hj : j < l.length) (hb : impl_Disk_fileAt.cmp (rd_T80 l (j : Int)).f0 x < 0) : impl_Disk_fileAt.cmp (rd_T80 l (i : Int)).f0 x < 0 := by
  rcases Nat.eq_or_lt_of_le hij with rfl | hlt
  · exact hb
  · have := rising_less l h (j - i - 1) i (by omega)
    rw [show i + (j - i - 1) + 1 = j by omega] at this
    exact cmp_trans _ _ _ this hb
theorem bs_spec (l : List S80) (h : Rising l) (x : ByteArray) (f : Nat) : ∀ i j : Nat, j - i ≤ f → i ≤ j → j ≤ l.length → (∀ m, m < i → impl_Disk_fileAt.cmp (rd_T80 l (m : Int)).f0 x < 0) → (∀ m, j ≤ m → m < l.length → ¬ impl_Disk_fileAt.cmp (rd_T80 l (m : Int)).f0 x < 0) →
    impl_Disk_fileAt.bs l x f i j ≤ l.length ∧ (∀ m, m < impl_Disk_fileAt.bs l x f i j → impl_Disk_fileAt.cmp (rd_T80 l (m : Int)).f0 x < 0) ∧ (∀ m, impl_Disk_fileAt.bs l x f i j ≤ m → m < l.length → ¬ impl_Disk_fileAt.cmp (rd_T80 l (m : Int)).f0 x < 0) := by
  induction f with
  | zero =>
    intro i j h0 h1 h2 h3 h4
    obtain rfl : i = j := by omega
    exact ⟨h2, h3, h4⟩
  | succ f ih =>
    intro i j h0 h1 h2 h3 h4
    by_cases hlt : i < j
    · simp only [impl_Disk_fileAt.bs, if_pos hlt]
      by_cases hc : impl_Disk_fileAt.cmp (rd_T80 l (((i + j) / 2 : Nat) : Int)).f0 x < 0
      · rw [if_pos hc]
        exact ih _ _ (by omega) (by omega) h2 (fun m hm => below_down l h x m ((i + j) / 2) (by omega) (by omega) hc) h4
      · rw [if_neg hc]
        exact ih _ _ (by omega) (by omega) (by omega) h3 (fun m hm hn hb => hc (below_down l h x ((i + j) / 2) m hm hn hb))
    · simp only [impl_Disk_fileAt.bs, if_neg hlt]
      obtain rfl : i = j := by omega
      exact ⟨h2, h3, h4⟩
/-- Where a file lies, or that it lies nowhere. -/
theorem fileAt_some (room : Int) (l : List S80) (h : Rising l) (h8 : l.length ≤ 8) (x : ByteArray) :
    ∃ (q : Nat) (b : Bool), impl_Disk_fileAt.f room l x = some ((q : Int), b) ∧ ((b = true ∧ q < l.length ∧ (rd_T80 l (q : Int)).f0 = x ∧ ∀ m, m < q → (rd_T80 l (m : Int)).f0 ≠ x) ∨ (b = false ∧ ∀ m, m < l.length → (rd_T80 l (m : Int)).f0 ≠ x)) := by
  obtain ⟨s1, s2, s3⟩ := bs_spec l h x l.length 0 l.length (by omega) (by omega) (Nat.le_refl _) (fun m hm => absurd hm (Nat.not_lt_zero _)) (fun m h1 h2 => by omega)
  have hself : ∀ y : ByteArray, impl_Disk_fileAt.cmp y y = 0 := fun y => (cmp_zero y y).2 rfl
  unfold impl_Disk_fileAt.f
  rw [if_pos (by omega)]
  generalize impl_Disk_fileAt.bs l x l.length 0 l.length = q at s1 s2 s3 ⊢
  refine ⟨q, _, rfl, ?_⟩
  by_cases hf : q < l.length ∧ (rd_T80 l (q : Int)).f0 = x
  · obtain ⟨f1, f2⟩ := hf
    refine .inl ⟨?_, f1, f2, fun m hm he => ?_⟩
    · rw [decide_eq_true f1, decide_eq_true ((cmp_zero _ _).2 f2)]; rfl
    · have := s2 m hm
      rw [he, hself] at this
      omega
  · refine .inr ⟨?_, fun m hm he => ?_⟩
    · rw [Bool.and_eq_false_iff]
      by_cases f1 : q < l.length
      · exact .inr (decide_eq_false (fun hz => hf ⟨f1, (cmp_zero _ _).1 hz⟩))
      · exact .inl (decide_eq_false f1)
    · have hq : q ≤ m := by
        apply Decidable.byContradiction
        intro hn
        have := s2 m (by omega)
        rw [he, hself] at this
        omega
      rcases Nat.eq_or_lt_of_le hq with rfl | hlt
      · exact hf ⟨hm, he⟩
      · have h1 := rising_less l h (m - q - 1) q (by omega)
        rw [show q + (m - q - 1) + 1 = m by omega, he] at h1
        exact s3 q (Nat.le_refl _) (by omega) h1

theorem eqFile_same (a0) (a1) (a2) : laws_eqFile.f a0 a1 a2 a0 a1 a2 = some true := by
  unfold laws_eqFile.f
  repeat' split
  all_goals first | rfl | (exfalso; simp_all)
theorem eqFileS_ev (l : List S80) (hl : l.length ≤ 1048576) : Ev (fun k => laws_eqFileS.f k l l) true := by
  have key := ev_loop (fun k (i : Int) => laws_eqFileS.l0 k l l i) (fun i => 0 ≤ i ∧ i ≤ l.length) (fun i => l.length - i.toNat) (fun _ => true) (by
    rintro i ⟨h0, h1⟩
    by_cases hi : i < (l.length : Int)
    · right
      refine ⟨i + 1, ⟨by omega, by omega⟩, by omega, rfl, 0, fun j _ => ?_⟩
      simp only [laws_eqFileS.l0, eqFile_same, Option.bind_some]
      rw [if_pos hi, if_pos h0, if_pos hi, if_pos trivial, wrap_in (by omega) (by omega)]
    · left
      refine ⟨0, fun j _ => ?_⟩
      simp only [laws_eqFileS.l0]
      rw [if_neg hi])
  refine ev_congr (fun k => ?_) (key 0 ⟨by omega, by omega⟩)
  unfold laws_eqFileS.f
  rw [if_pos rfl]

theorem eqDisk_ev (a : Int) (l : List S80) (hl : l.length ≤ 1048576) : Ev (fun k => laws_eqDisk.f k a l a l) true := by
  unfold laws_eqDisk.f
  exact ev_if_pos rfl (ev_bind (eqFileS_ev l hl) (ev_if_pos rfl (ev_some _)))

theorem find_from (l : List S80) (room : Int) (x : ByteArray) (hl : l.length ≤ 1048576) (q : Nat) (hq : q < l.length) (he : (rd_T80 l (q : Int)).f0 = x) (d : Nat) : ∀ i : Nat, i + d = q → (∀ m, m < q → (rd_T80 l (m : Int)).f0 ≠ x) → Ev (fun k => spec_l03Find.l0 k x (i : Int) room l) (q : Int) := by
  induction d with
  | zero =>
    intro i hi hne
    obtain rfl : i = q := by omega
    refine ev_succ ?_
    simp only [spec_l03Find.l0]
    exact ev_if_pos (by omega) (ev_if_pos (by omega) (ev_if_pos (by rw [he]) (ev_some _)))
  | succ d ih =>
    intro i hi hne
    have hw : wrap64 ((i : Int) + 1) = ((i + 1 : Nat) : Int) := by rw [wrap_in (by omega) (by omega)]; omega
    have := ih (i + 1) (by omega) hne
    refine ev_succ ?_
    simp only [spec_l03Find.l0, hw]
    refine ev_if_pos (by omega) (ev_if_pos (by omega) (ev_if_neg (fun hh => hne i (by omega) ?_) this))
    rw [ByteArray.toList_eq, ByteArray.toList_eq] at hh
    exact ByteArray.ext (Array.toList_inj.1 hh)
theorem find_none (l : List S80) (room : Int) (x : ByteArray) (hl : l.length ≤ 1048576) (hne : ∀ m, m < l.length → (rd_T80 l (m : Int)).f0 ≠ x) (d : Nat) : ∀ i : Nat, i + d = l.length → Ev (fun k => spec_l03Find.l0 k x (i : Int) room l) (-1) := by
  induction d with
  | zero =>
    intro i hi
    refine ev_succ ?_
    simp only [spec_l03Find.l0]
    exact ev_if_neg (by omega) (ev_some _)
  | succ d ih =>
    intro i hi
    have hw : wrap64 ((i : Int) + 1) = ((i + 1 : Nat) : Int) := by rw [wrap_in (by omega) (by omega)]; omega
    have := ih (i + 1) (by omega)
    refine ev_succ ?_
    simp only [spec_l03Find.l0, hw]
    refine ev_if_pos (by omega) (ev_if_pos (by omega) (ev_if_neg (fun hh => hne i (by omega) ?_) this))
    rw [ByteArray.toList_eq, ByteArray.toList_eq] at hh
    exact ByteArray.ext (Array.toList_inj.1 hh)
theorem data_answer (room : Int) (l : List S80) (x : ByteArray) (hl : l.length ≤ 1048576) (hB : ∀ x ∈ l, x.f0.size ≤ 1048576 ∧ x.f1.size ≤ 1048576) :
    ∃ (n : ByteArray) (e : Int), Ev (fun k => spec_FileData.f k room l x) (n, e) ∧ Ev (fun k => impl_FileData.f k room l x) (n, e) := by
  obtain ⟨b, h1, h2⟩ := disk_same room l hl hB
  have ht : impl_isText.f [x] = some (!decide ((x.size : Int) > 65536)) := by
    unfold impl_isText.f impl_isText.p
    simp only [List.any_cons, List.any_nil, Bool.or_false]
  unfold spec_FileData.f impl_FileData.f
  rw [ht]
  simp only [Option.bind_some]
  by_cases hx : (x.size : Int) > 65536
  · exact ⟨⟨#[]⟩, 2, ev_if_pos hx (ev_some _), ev_if_neg (by simp [hx]) (ev_some _)⟩
  · have himp : (!decide ((x.size : Int) > 65536)) = true := by rw [decide_eq_false hx]; rfl
    cases b with
    | false => exact ⟨⟨#[]⟩, 1, ev_if_neg hx (ev_bind h1 (ev_if_neg (by simp) (ev_some _))), ev_if_pos himp (ev_bind h2 (ev_if_neg (by simp) (ev_some _)))⟩
    | true =>
      obtain ⟨hr, h8⟩ := disk_rising room l hl h2
      obtain ⟨q, b, hf, hh⟩ := fileAt_some room l hr h8 x
      rcases hh with ⟨rfl, hq, he, hne⟩ | ⟨rfl, hne⟩
      · refine ⟨(rd_T80 l (q : Int)).f1, 0, ev_if_neg hx (ev_bind h1 (ev_if_pos rfl (ev_bind (find_from l room x hl q hq he q 0 (by omega) hne) (ev_if_neg (by omega) (ev_if_pos (by omega) (ev_if_pos (by omega) (ev_some _))))))), ev_if_pos himp (ev_bind h2 (ev_if_pos rfl ?_))⟩
        rw [hf]
        simp only [Option.bind_some]
        exact ev_if_pos (by first | rfl | trivial) (ev_if_pos (by omega) (ev_if_pos (by omega) (ev_some _)))
      · refine ⟨⟨#[]⟩, 5, ev_if_neg hx (ev_bind h1 (ev_if_pos rfl (ev_bind (find_none l room x hl hne l.length 0 (by omega)) (ev_if_pos (by omega) (ev_some _))))), ev_if_pos himp (ev_bind h2 (ev_if_pos rfl ?_))⟩
        rw [hf]
        simp only [Option.bind_some]
        exact ev_if_neg (by simp) (ev_some _)
theorem FnExactFileData : laws_FnExactFileData.Pure := by
  intro a l x _ hg _
  refine Ev.rounds (r := true) ?_
  unfold laws_FnExactFileData.f
  by_cases hx : (x.size : Int) > 1048576
  · exact ev_if_pos hx (ev_some _)
  refine ev_if_neg hx ?_
  obtain ⟨s, hs, hh⟩ := szDisk_ev a l hg 1048576 (by omega) (by omega)
  refine ev_bind hs ?_
  by_cases hneg : s < 0
  · exact ev_if_pos hneg (ev_some _)
  · obtain ⟨_, hl, _, hB⟩ := hh.resolve_left (by omega)
    have ht := toDisk_ev a l (by omega)
    have hml : (l.map convFile).length = l.length := List.length_map _
    obtain ⟨n, e, h1, h2⟩ := data_answer a (l.map convFile) x (by omega) (conv_bound l 1048576 (by omega) hB)
    have he := eqDisk_ev a (l.map convFile) (by omega)
    refine ev_if_neg hneg (ev_bind ht (ev_bind h1 (ev_bind ht (ev_bind h2 (ev_if_pos rfl ?_)))))
    show Ev (fun k => laws_FnExactFileData.j0 k (e != e) a l a (l.map convFile)) true
    have hee : (e != e) = false := by simp
    rw [hee]
    refine ev_succ ?_
    simp only [laws_FnExactFileData.j0]
    exact ev_if_neg (by simp) (ev_bind ht (ev_bind he (ev_if_pos rfl (ev_some _))))
end Go.Proofs.Ytfjpkblkdlgaeaa.Pure
