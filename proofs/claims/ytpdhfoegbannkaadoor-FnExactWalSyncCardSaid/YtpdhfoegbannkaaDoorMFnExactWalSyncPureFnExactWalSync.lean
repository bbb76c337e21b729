/- WalSync answers as the reference's at every disk: the plain form. No conditions. -/
import Derived.Test.YtpdhfoegbannkaaDoorMFnExactWalSyncQFnExactWalSync
import Derived.Test.YtpdhfoegbannkaaDoorMFnExactWalSyncU
namespace Go.Proofs.YtpdhfoegbannkaaDoor.Pure
open Go.RowKit Go.Proofs.YtpdhfoegbannkaaDoor.PFnExactWalSync Go.Proofs.YtpdhfoegbannkaaDoorW.PrintWords Go.Proofs.YtpdhfoegbannkaaDoorW.PrintLast Go.Proofs.YtpdhfoegbannkaaDoorW.PrintMore Go.Proofs.YtpdhfoegbannkaaDoor.U
set_option linter.unusedVariables false
set_option linter.unusedSimpArgs false
def letB (c : Int) : Bool := decide (97 ≤ c ∧ c ≤ 122 ∨ 65 ≤ c ∧ c ≤ 90 ∨ c = 95)
def digB (c : Int) : Bool := decide (48 ≤ c ∧ c ≤ 57)
theorem letter_eq (c : Int) : spec_l00Letter.f c = some (letB c) := by
  unfold spec_l00Letter.f letB
  repeat' split
  all_goals simp only [Option.some.injEq]
  all_goals first | (symm; simp only [decide_eq_true_eq]; omega) | (rw [Bool.eq_iff_iff]; simp only [beq_iff_eq, decide_eq_true_eq]; omega)
theorem digit_eq (c : Int) : spec_l00Digit.f c = some (digB c) := by
  unfold spec_l00Digit.f digB
  split
  · simp only [Option.some.injEq]; rw [Bool.eq_iff_iff]; simp only [decide_eq_true_eq]; omega
  · simp only [Option.some.injEq]; symm; simp only [decide_eq_false_iff_not]; omega
theorem wrap_next {i : Int} {n : Nat} (h0 : 0 ≤ i) (h : i < (n : Int)) (hn : n ≤ 1048576) : wrap64 (i + 1) = i + 1 := by
  unfold wrap64
  omega
theorem impl_step (k : Nat) (s : ByteArray) (i : Int) (b : Bool) (h0 : 0 ≤ i) (h1 : i < (s.size : Int)) (hr : impl_NameOK.l0 k s (s.size : Int) (wrap64 (i + 1)) = some b) :
    impl_NameOK.l0 (k + 1) s (s.size : Int) i = some (if letB (bt s i) || (decide (i ≠ 0) && digB (bt s i)) then b else false) := by
  simp only [impl_NameOK.l0]
  rw [if_pos h1, if_pos h0, if_pos h1, hr]
  generalize bt s i = c
  unfold letB digB
  simp only [Bool.or_eq_true, Bool.and_eq_true, decide_eq_true_eq]
  repeat' split
  all_goals first | rfl | omega
theorem spec_step (k : Nat) (s : ByteArray) (i : Int) (b : Bool) (h0 : 0 ≤ i) (h1 : i < (s.size : Int)) (hr : spec_l00Word.l0 k s (wrap64 (i + 1)) = some b) :
    spec_l00Word.l0 (k + 1) s i = some (if letB (bt s i) || digB (bt s i) then b else false) := by
  simp only [spec_l00Word.l0]
  rw [if_pos h1, if_pos h0, letter_eq, digit_eq, hr]
  simp only [Option.bind_some]
  cases letB (bt s i) <;> cases digB (bt s i) <;> rfl
theorem impl_end (k : Nat) (s : ByteArray) : impl_NameOK.l0 (k + 1) s (s.size : Int) (s.size : Int) = some (decide (1 ≤ (s.size : Int) ∧ (s.size : Int) ≤ 40)) := by
  simp only [impl_NameOK.l0]
  rw [if_neg (by omega)]
  unfold impl_within.f
  by_cases h1 : (s.size : Int) ≥ 1 <;> by_cases h2 : (s.size : Int) ≤ 40 <;> simp [h1, h2]
/-- From place i on: both loops come to their ends, and they say the same. -/
theorem both (s : ByteArray) (hn : s.size ≤ 1048576) (d : Nat) : ∀ (k : Nat) (i : Int), 1 ≤ i → i ≤ s.size → (s.size : Int) - i = d → d < k →
    ∃ b : Bool, spec_l00Word.l0 k s i = some b ∧ impl_NameOK.l0 k s (s.size : Int) i = some (b && decide (1 ≤ (s.size : Int) ∧ (s.size : Int) ≤ 40)) := by
  induction d with
  | zero =>
    intro k i h0 h1 hd hk
    obtain ⟨k, rfl⟩ : ∃ m, k = m + 1 := ⟨k - 1, by omega⟩
    obtain rfl : i = (s.size : Int) := by omega
    exact ⟨true, by simp only [spec_l00Word.l0]; rw [if_neg (by omega)], by rw [impl_end, Bool.true_and]⟩
  | succ d ih =>
    intro k i h0 h1 hd hk
    obtain ⟨k, rfl⟩ : ∃ m, k = m + 1 := ⟨k - 1, by omega⟩
    have hi : i < (s.size : Int) := by omega
    have hw := wrap_next (by omega) hi hn
    obtain ⟨b, hs, hm⟩ := ih k (i + 1) (by omega) (by omega) (by omega) (by omega)
    rw [← hw] at hs hm
    have hne : decide (i ≠ 0) = true := by simp; omega
    refine ⟨_, spec_step k s i b (by omega) hi hs, ?_⟩
    rw [impl_step k s i _ (by omega) hi hm, hne, Bool.true_and]
    cases letB (bt s i) || digB (bt s i) <;> rfl
theorem name_same (s : ByteArray) (hn : s.size ≤ 1048576) : ∃ b, Ev (fun k => spec_NameOK.f k s) b ∧ Ev (fun k => impl_NameOK.f k s) b := by
  suffices h : ∃ k b, spec_NameOK.f k s = some b ∧ impl_NameOK.f k s = some b by
    obtain ⟨k, b, h1, h2⟩ := h
    exact ⟨b, ev_mono (g := fun k => spec_NameOK.f k s) (fun k => spec_NameOK.mono _ k) h1, ev_mono (g := fun k => impl_NameOK.f k s) (fun k => impl_NameOK.mono _ k) h2⟩
  unfold spec_NameOK.f spec_l00Word.f impl_NameOK.f
  by_cases h0 : (s.size : Int) < 1
  · have hz : (s.size : Int) = 0 := by omega
    refine ⟨1, false, by rw [if_pos h0]; rfl, ?_⟩
    have := impl_end 0 s
    rw [hz] at this ⊢
    rw [this]
    rfl
  · obtain ⟨b, hs, hm⟩ := both s hn (s.size - 1) s.size 1 (by omega) (by omega) (by omega) (by omega)
    have hw : wrap64 (0 + 1) = 1 := by unfold wrap64; omega
    have hstep := impl_step s.size s 0 _ (by omega) (by omega) (by rw [hw]; exact hm)
    refine ⟨s.size + 1, _, ?_, hstep⟩
    rw [if_neg h0]
    have hne : decide ((0 : Int) ≠ 0) = false := by simp
    rw [hne, Bool.false_and, Bool.or_false]
    by_cases h40 : (s.size : Int) > 40
    · rw [if_pos h40]
      have : decide (1 ≤ (s.size : Int) ∧ (s.size : Int) ≤ 40) = false := by simp; omega
      rw [this, Bool.and_false, ite_self]
      rfl
    · rw [if_neg h40, if_pos (by omega), letter_eq]
      simp only [Option.bind_some]
      have : decide (1 ≤ (s.size : Int) ∧ (s.size : Int) ≤ 40) = true := by simp; omega
      rw [this, Bool.and_true]
      simp only [spec_l00Word.j0, hs]
      cases letB (bt s 0) <;> simp

def sizes (l : List S69) : Int := (l.map fun x => (x.f1.size : Int)).sum
theorem sizes_bound (l : List S69) (hB : ∀ x ∈ l, x.f0.size ≤ 1048576 ∧ x.f1.size ≤ 1048576) : 0 ≤ sizes l ∧ sizes l ≤ 1048576 * (l.length : Int) := by
  unfold sizes
  induction l with
  | nil => simp
  | cons x r ih =>
    have h1 := ih (fun y hy => hB y (List.mem_cons_of_mem _ hy))
    have h2 := hB x List.mem_cons_self
    simp only [List.map_cons, List.sum_cons, List.length_cons]
    omega
theorem sizes_mem (l : List S69) : ∀ x ∈ l, (x.f1.size : Int) ≤ sizes l := by
  unfold sizes
  induction l with
  | nil => intro x hx; simp at hx
  | cons y r ih =>
    have h0 : 0 ≤ (r.map fun x => (x.f1.size : Int)).sum := by
      clear ih
      induction r with
      | nil => simp
      | cons z q ih => simp only [List.map_cons, List.sum_cons]; omega
    intro x hx
    simp only [List.map_cons, List.sum_cons]
    rcases List.mem_cons.1 hx with rfl | hx
    · omega
    · have := ih x hx; omega
theorem rd_file (l : List S69) (i : Nat) (h : i < l.length) : rd_T69 l (i : Int) = l[i] := by
  unfold rd_T69
  rw [Int.toNat_natCast, List.getD_eq_getElem?_getD, List.getElem?_eq_getElem h, Option.getD_some]
theorem used_both (l : List S69) (room : Int) (hl : l.length ≤ 1048576) (hB : ∀ x ∈ l, x.f0.size ≤ 1048576 ∧ x.f1.size ≤ 1048576) (d : Nat) : ∀ (i : Nat) (v : Int), i + d = l.length → 0 ≤ v → v + sizes (l.drop i) ≤ 1099511627776 →
    Ev (fun k => spec_l03Used.l0 k v (i : Int) room l) (v + sizes (l.drop i)) ∧ Ev (fun k => impl_Disk_used.l0 k v l (l.length : Int) (i : Int)) (v + sizes (l.drop i)) := by
  induction d with
  | zero =>
    intro i v hi h0 h1
    have hd : sizes (l.drop i) = 0 := by rw [List.drop_eq_nil_of_le (by omega)]; rfl
    rw [hd, Int.add_zero]
    exact ⟨ev_succ (ev_of_eq fun k => by simp only [spec_l03Used.l0]; rw [if_neg (by omega)]), ev_succ (ev_of_eq fun k => by simp only [impl_Disk_used.l0]; rw [if_neg (by omega)])⟩
  | succ d ih =>
    intro i v hi h0 h1
    have hlt : i < l.length := by omega
    have hdrop : l.drop i = l[i] :: l.drop (i + 1) := List.drop_eq_getElem_cons hlt
    have hs : sizes (l.drop i) = (l[i].f1.size : Int) + sizes (l.drop (i + 1)) := by rw [hdrop]; rfl
    have hnn := (sizes_bound (l.drop (i + 1)) (fun x hx => hB x (List.mem_of_mem_drop hx))).1
    have hw : wrap64 ((i : Int) + 1) = ((i + 1 : Nat) : Int) := by rw [wrap_in (by omega) (by omega)]; omega
    have hv : wrap64 (v + (l[i].f1.size : Int)) = v + (l[i].f1.size : Int) := wrap_in (by omega) (by omega)
    obtain ⟨e1, e2⟩ := ih (i + 1) (v + (l[i].f1.size : Int)) (by omega) (by omega) (by omega)
    rw [hs, ← Int.add_assoc]
    refine ⟨ev_succ ?_, ev_succ ?_⟩
    · simp only [spec_l03Used.l0, rd_file l i hlt, hv, hw]
      exact ev_if_pos (by omega) (ev_if_pos (by omega) e1)
    · simp only [impl_Disk_used.l0, rd_file l i hlt, hv, hw]
      exact ev_if_pos (by omega) (ev_if_pos (by omega) (ev_if_pos (by omega) e2))
theorem used_same (l : List S69) (room : Int) (hl : l.length ≤ 1048576) (hB : ∀ x ∈ l, x.f0.size ≤ 1048576 ∧ x.f1.size ≤ 1048576) :
    Ev (fun k => spec_l03Used.f k room l) (sizes l) ∧ Ev (fun k => impl_Disk_used.f k room l) (sizes l) := by
  have hb := sizes_bound l hB
  have := used_both l room hl hB l.length 0 0 (by omega) (by omega) (by rw [List.drop_zero]; omega)
  rw [List.drop_zero, Int.zero_add] at this
  exact this
theorem in_eq (a b c : Int) : spec_l01In.f a b c = some (decide (b ≤ a ∧ a ≤ c)) := by
  unfold spec_l01In.f
  split <;> simp only [Option.some.injEq] <;> rw [Bool.eq_iff_iff] <;> simp <;> omega
theorem within_eq (a b c : Int) : impl_within.f a b c = some (decide (b ≤ a ∧ a ≤ c)) := by
  unfold impl_within.f
  split <;> simp only [Option.some.injEq] <;> rw [Bool.eq_iff_iff] <;> simp <;> omega
/-- From file i on: the reference asks for the size of each besides, and at the end for the sum. -/
theorem files_both (l : List S69) (room : Int) (hl : l.length ≤ 1048576) (hB : ∀ x ∈ l, x.f0.size ≤ 1048576 ∧ x.f1.size ≤ 1048576) (d : Nat) : ∀ i : Nat, i + d = l.length →
    ∃ b c : Bool, Ev (fun k => impl_DiskOK.l0 k l (l.length : Int) (i : Int) room l) b ∧ Ev (fun k => spec_DiskOK.l0 k (i : Int) room l) c ∧ (c = true ↔ b = true ∧ (∀ x ∈ l.drop i, (x.f1.size : Int) ≤ 3000) ∧ sizes l ≤ room) := by
  induction d with
  | zero =>
    intro i hi
    refine ⟨true, decide (sizes l ≤ room), ev_succ (ev_of_eq fun k => ?_), ev_succ ?_, ?_⟩
    · simp only [impl_DiskOK.l0]; rw [if_neg (by omega)]
    · simp only [spec_DiskOK.l0]
      exact ev_if_neg (by omega) (ev_bind (used_same l room hl hB).1 (ev_some _))
    · rw [List.drop_eq_nil_of_le (by omega)]; simp
  | succ d ih =>
    intro i hi
    have hlt : i < l.length := by omega
    have hi1 : (i : Int) < (l.length : Int) := by omega
    have hi0 : 0 ≤ (i : Int) := by omega
    have hdrop : l.drop i = l[i] :: l.drop (i + 1) := List.drop_eq_getElem_cons hlt
    have hw : wrap64 ((i : Int) + 1) = ((i + 1 : Nat) : Int) := by rw [wrap_in (by omega) (by omega)]; omega
    have hp : wrap64 ((i : Int) - 1) = (i : Int) - 1 := wrap_in (by omega) (by omega)
    have hsz := hB l[i] (List.getElem_mem hlt)
    obtain ⟨b, c, hm, hs, hbc⟩ := ih (i + 1) (by omega)
    obtain ⟨r, n1, n2⟩ := name_same l[i].f0 hsz.1
    cases r with
    | false =>
      refine ⟨false, false, ev_succ ?_, ev_succ ?_, by simp⟩
      · simp only [impl_DiskOK.l0, rd_file l i hlt]
        exact ev_if_pos hi1 (ev_if_pos hi0 (ev_if_pos hi1 (ev_bind n2 (ev_if_neg (by simp) (ev_some _)))))
      · simp only [spec_DiskOK.l0, rd_file l i hlt]
        exact ev_if_pos hi1 (ev_if_pos hi0 (ev_bind n1 (ev_if_neg (by simp) (ev_some _))))
    | true =>
      by_cases c1 : 0 ≤ l[i].f2 ∧ l[i].f2 ≤ (l[i].f1.size : Int)
      · have k1 : decide (0 ≤ l[i].f2 ∧ l[i].f2 ≤ (l[i].f1.size : Int)) = true := decide_eq_true c1
        by_cases c2 : (i : Int) > 0
        · by_cases c3 : Op.bytesLess ((rd_T69 l ((i : Int) - 1)).f0.toList) (l[i].f0.toList) = true
          · by_cases c4 : (l[i].f1.size : Int) > 3000
            · refine ⟨b, false, ev_succ ?_, ev_succ ?_, ?_⟩
              · simp only [impl_DiskOK.l0, rd_file l i hlt, hp, hw, within_eq, k1, Option.bind_some]
                exact ev_if_pos hi1 (ev_if_pos hi0 (ev_if_pos hi1 (ev_bind n2 (ev_if_pos rfl (ev_if_pos c2 (ev_if_pos (by omega) (ev_if_pos (by omega) (ev_if_pos c3 (ev_if_pos trivial hm)))))))))
              · simp only [spec_DiskOK.l0, rd_file l i hlt, hp, hw, in_eq, k1, Option.bind_some]
                exact ev_if_pos hi1 (ev_if_pos hi0 (ev_bind n1 (ev_if_pos rfl (ev_if_pos trivial (ev_if_pos c4 (ev_some _))))))
              · rw [hdrop]
                simp only [Bool.false_eq_true, List.mem_cons, forall_eq_or_imp, false_iff]
                omega
            · refine ⟨b, c, ev_succ ?_, ev_succ ?_, ?_⟩
              · simp only [impl_DiskOK.l0, rd_file l i hlt, hp, hw, within_eq, k1, Option.bind_some]
                exact ev_if_pos hi1 (ev_if_pos hi0 (ev_if_pos hi1 (ev_bind n2 (ev_if_pos rfl (ev_if_pos c2 (ev_if_pos (by omega) (ev_if_pos (by omega) (ev_if_pos c3 (ev_if_pos trivial hm)))))))))
              · simp only [spec_DiskOK.l0, rd_file l i hlt, hp, hw, in_eq, k1, Option.bind_some]
                exact ev_if_pos hi1 (ev_if_pos hi0 (ev_bind n1 (ev_if_pos rfl (ev_if_pos trivial (ev_if_neg c4 (ev_if_pos c2 (ev_if_pos (by omega) (ev_if_pos (by omega) (ev_if_pos c3 hs)))))))))
              · rw [hdrop, hbc]
                simp only [List.mem_cons, forall_eq_or_imp]
                constructor
                · rintro ⟨x, y, z⟩; exact ⟨x, ⟨by omega, y⟩, z⟩
                · rintro ⟨x, ⟨_, y⟩, z⟩; exact ⟨x, y, z⟩
          · have c4 : True := trivial
            refine ⟨false, false, ev_succ ?_, ev_succ ?_, by simp⟩
            · simp only [impl_DiskOK.l0, rd_file l i hlt, hp, hw, within_eq, k1, Option.bind_some]
              exact ev_if_pos hi1 (ev_if_pos hi0 (ev_if_pos hi1 (ev_bind n2 (ev_if_pos rfl (ev_if_pos c2 (ev_if_pos (by omega) (ev_if_pos (by omega) (ev_if_neg c3 (ev_some _)))))))))
            · simp only [spec_DiskOK.l0, rd_file l i hlt, hp, hw, in_eq, k1, Option.bind_some]
              refine ev_if_pos hi1 (ev_if_pos hi0 (ev_bind n1 (ev_if_pos rfl (ev_if_pos trivial ?_))))
              by_cases c4 : (l[i].f1.size : Int) > 3000
              · exact ev_if_pos c4 (ev_some _)
              · exact ev_if_neg c4 (ev_if_pos c2 (ev_if_pos (by omega) (ev_if_pos (by omega) (ev_if_neg c3 (ev_some _)))))
        · by_cases c4 : (l[i].f1.size : Int) > 3000
          · refine ⟨b, false, ev_succ ?_, ev_succ ?_, ?_⟩
            · simp only [impl_DiskOK.l0, rd_file l i hlt, hp, hw, within_eq, k1, Option.bind_some]
              exact ev_if_pos hi1 (ev_if_pos hi0 (ev_if_pos hi1 (ev_bind n2 (ev_if_pos rfl (ev_if_neg c2 (ev_if_pos trivial hm))))))
            · simp only [spec_DiskOK.l0, rd_file l i hlt, hp, hw, in_eq, k1, Option.bind_some]
              exact ev_if_pos hi1 (ev_if_pos hi0 (ev_bind n1 (ev_if_pos rfl (ev_if_pos trivial (ev_if_pos c4 (ev_some _))))))
            · rw [hdrop]
              simp only [Bool.false_eq_true, List.mem_cons, forall_eq_or_imp, false_iff]
              omega
          · refine ⟨b, c, ev_succ ?_, ev_succ ?_, ?_⟩
            · simp only [impl_DiskOK.l0, rd_file l i hlt, hp, hw, within_eq, k1, Option.bind_some]
              exact ev_if_pos hi1 (ev_if_pos hi0 (ev_if_pos hi1 (ev_bind n2 (ev_if_pos rfl (ev_if_neg c2 (ev_if_pos trivial hm))))))
            · simp only [spec_DiskOK.l0, rd_file l i hlt, hp, hw, in_eq, k1, Option.bind_some]
              exact ev_if_pos hi1 (ev_if_pos hi0 (ev_bind n1 (ev_if_pos rfl (ev_if_pos trivial (ev_if_neg c4 (ev_if_neg c2 hs))))))
            · rw [hdrop, hbc]
              simp only [List.mem_cons, forall_eq_or_imp]
              constructor
              · rintro ⟨x, y, z⟩; exact ⟨x, ⟨by omega, y⟩, z⟩
              · rintro ⟨x, ⟨_, y⟩, z⟩; exact ⟨x, y, z⟩
      · have k1 : decide (0 ≤ l[i].f2 ∧ l[i].f2 ≤ (l[i].f1.size : Int)) = false := decide_eq_false c1
        refine ⟨false, false, ev_succ ?_, ev_succ ?_, by simp⟩
        · simp only [impl_DiskOK.l0, rd_file l i hlt, hp, hw, within_eq, k1, Option.bind_some]
          refine ev_if_pos hi1 (ev_if_pos hi0 (ev_if_pos hi1 (ev_bind n2 (ev_if_pos rfl ?_))))
          by_cases c2 : (i : Int) > 0
          · refine ev_if_pos c2 (ev_if_pos (by omega) (ev_if_pos (by omega) ?_))
            by_cases c3 : Op.bytesLess ((rd_T69 l ((i : Int) - 1)).f0.toList) (l[i].f0.toList) = true
            · exact ev_if_pos c3 (ev_if_neg (by simp) (ev_some _))
            · exact ev_if_neg c3 (ev_some _)
          · exact ev_if_neg c2 (ev_if_neg (by simp) (ev_some _))
        · simp only [spec_DiskOK.l0, rd_file l i hlt, hp, hw, in_eq, k1, Option.bind_some]
          exact ev_if_pos hi1 (ev_if_pos hi0 (ev_bind n1 (ev_if_pos rfl (ev_if_neg (by simp) (ev_some _)))))
theorem disk_same (room : Int) (l : List S69) (hl : l.length ≤ 1048576) (hB : ∀ x ∈ l, x.f0.size ≤ 1048576 ∧ x.f1.size ≤ 1048576) : ∃ b, Ev (fun k => spec_DiskOK.f k room l) b ∧ Ev (fun k => impl_DiskOK.f k room l) b := by
  unfold spec_DiskOK.f impl_DiskOK.f
  rw [in_eq, within_eq]
  simp only [Option.bind_some]
  have sbad : Ev (fun k => spec_DiskOK.j0 k true room l) false := by
    refine ev_succ ?_
    simp only [spec_DiskOK.j0]
    exact ev_if_pos trivial (ev_some _)
  have ibad : Ev (fun k => impl_DiskOK.j0 k true room l) false := by
    refine ev_succ ?_
    simp only [impl_DiskOK.j0]
    exact ev_if_pos trivial (ev_some _)
  by_cases c1 : 0 ≤ room ∧ room ≤ 3000
  · rw [decide_eq_true c1]
    by_cases c2 : (l.length : Int) > 8
    · rw [decide_eq_true c2]
      exact ⟨false, ev_if_pos rfl sbad, ev_if_pos rfl (ev_if_pos c2 ibad)⟩
    · rw [decide_eq_false c2]
      obtain ⟨b, c, hm, hs, hbc⟩ := files_both l room hl hB l.length 0 (by omega)
      have hs' : Ev (fun k => spec_DiskOK.j0 k false room l) c := by
        refine ev_succ ?_
        simp only [spec_DiskOK.j0]
        exact ev_if_neg (by simp) hs
      by_cases c3 : sizes l > room
      · have hc : c = false := by
          rw [Bool.eq_false_iff]
          intro h
          have := (hbc.1 h).2.2
          omega
        subst hc
        refine ⟨false, ev_if_pos rfl hs', ev_if_pos rfl (ev_if_neg c2 (ev_bind (used_same l room hl hB).2 ?_))⟩
        rw [decide_eq_true c3]
        exact ibad
      · have hc : c = b := by
          rw [Bool.eq_iff_iff, hbc]
          have hall : ∀ x ∈ l.drop 0, (x.f1.size : Int) ≤ 3000 := fun x hx => by
            have := sizes_mem l x (by simpa using hx)
            omega
          constructor
          · exact fun h => h.1
          · exact fun h => ⟨h, hall, by omega⟩
        subst hc
        refine ⟨c, ev_if_pos rfl hs', ev_if_pos rfl (ev_if_neg c2 (ev_bind (used_same l room hl hB).2 ?_))⟩
        rw [decide_eq_false c3]
        refine ev_succ ?_
        simp only [impl_DiskOK.j0]
        exact ev_if_neg (by simp) hm
  · rw [decide_eq_false c1]
    exact ⟨false, ev_if_neg (by simp) sbad, ev_if_neg (by simp) ibad⟩
def convFile (x : S67) : S69 := ⟨x.f0, x.f1, x.f2⟩
theorem toFileS_ev (l : List S67) (hl : l.length ≤ 1048576) : Ev (fun k => laws_toFileS.f k l) (l.map convFile) := by
  have hml : (l.map convFile).length = l.length := List.length_map _
  have key := ev_loop (fun k (s : List S69 × Int) => laws_toFileS.l0 k l s.1 s.2) (fun s => 0 ≤ s.2 ∧ s.2 ≤ l.length ∧ s.1.length = l.length ∧ ∀ j : Nat, j < s.2.toNat → s.1[j]? = (l.map convFile)[j]?) (fun s => l.length - s.2.toNat) (fun _ => l.map convFile) (by
    rintro ⟨x, i⟩ ⟨h0, h1, h2, h3⟩
    simp only at h0 h1 h2 h3
    by_cases hi : i < (l.length : Int)
    · right
      obtain ⟨hs1, hs2⟩ := copy_step (l.map convFile) x i.toNat (convFile z67) (by rw [hml]; exact h2) (by rw [hml]; omega) h3
      have hg : (l.map convFile).getD i.toNat (convFile z67) = convFile (rd_T67 l i) := by
        unfold rd_T67
        rw [List.getD_eq_getElem?_getD, List.getD_eq_getElem?_getD, List.getElem?_map]
        cases l[i.toNat]? <;> rfl
      rw [hg] at hs1 hs2
      rw [hml] at hs1
      refine ⟨(x.set i.toNat (convFile (rd_T67 l i)), i + 1), ⟨by simp only; omega, by simp only; omega, hs1, fun j hj => hs2 j (by simp only at hj; omega)⟩, by simp only; omega, rfl, 0, fun j _ => ?_⟩
      show laws_toFileS.l0 (j + 1) l x i = _
      simp only [laws_toFileS.l0, laws_toFile.f, Option.bind_some]
      rw [if_pos (by omega), if_pos h0, if_pos (by omega), wrap_in (x := i + 1) (by omega) (by omega)]
      rfl
    · left
      refine ⟨0, fun j _ => ?_⟩
      show laws_toFileS.l0 (j + 1) l x i = _
      simp only [laws_toFileS.l0]
      rw [if_neg (by omega), copy_end (l.map convFile) x (by rw [hml]; exact h2) (fun j hj => h3 j (by rw [hml] at hj; omega))])
  have := key (List.replicate l.length z69, 0) ⟨by simp, by simp, by simp, fun j hj => absurd hj (by simp)⟩
  refine ev_congr (fun k => ?_) this
  unfold laws_toFileS.f
  rw [if_pos (by omega), if_pos (by omega), Int.toNat_natCast]

/-- The texts of one are no longer than what is left. -/
def BFile (x : S67) (n : Int) : Prop := (x.f0.size : Int) ≤ n ∧ (x.f1.size : Int) ≤ n
theorem szFile_some (x : S67) (hg : g67 x) (n : Int) (h0 : 0 ≤ n) (h1 : n ≤ 1048576) : ∃ s, laws_szFile.f x.f0 x.f1 x.f2 n = some s ∧ s ≤ n ∧ (0 ≤ s ∨ s = -1) ∧ (0 ≤ s → BFile x n) := by
  unfold laws_szFile.f BFile
  have hb0 : x.f0.size ≤ maxLen := hg.1
  have hb1 : x.f1.size ≤ maxLen := hg.2.1
  unfold maxLen at *
  have hw0 : wrap64 (n - (x.f0.size : Int)) = n - (x.f0.size : Int) := wrap_in (by omega) (by omega)
  by_cases c0 : n - (x.f0.size : Int) < 0
  · refine ⟨-1, ?_, by omega, .inr rfl, fun h => absurd h (by omega)⟩
    simp only [hw0]
    rw [if_pos c0]
  · skip
    have hw1 : wrap64 (n - (x.f0.size : Int) - (x.f1.size : Int)) = n - (x.f0.size : Int) - (x.f1.size : Int) := wrap_in (by omega) (by omega)
    by_cases c1 : n - (x.f0.size : Int) - (x.f1.size : Int) < 0
    · refine ⟨-1, ?_, by omega, .inr rfl, fun h => absurd h (by omega)⟩
      simp only [hw0, hw1]
      rw [if_neg c0]
      rw [if_pos c1]
    · skip
      refine ⟨n - (x.f0.size : Int) - (x.f1.size : Int), ?_, by omega, .inl (by omega), fun _ => ⟨by omega, by omega⟩⟩
      simp only [hw0, hw1]
      rw [if_neg c0]
      rw [if_neg c1]

theorem szFileS_ev (l : List S67) (hg : Open.GL g67 l) (n : Int) (h0 : 0 ≤ n) (h1 : n ≤ 1048576) : ∃ s, Ev (fun k => laws_szFileS.f k l n) s ∧ (s = -1 ∨ 0 ≤ s ∧ (l.length : Int) ≤ n ∧ s ≤ n ∧ ∀ x ∈ l, BFile x n) := by
  have hm := hg.1
  unfold maxLen at hm
  have hw : wrap64 (n - (l.length : Int)) = n - (l.length : Int) := wrap_in (by omega) (by omega)
  by_cases hneg : n - (l.length : Int) < 0
  · exact ⟨-1, ev_of_eq fun k => by unfold laws_szFileS.f; rw [hw, if_pos hneg], .inl rfl⟩
  · have key : ∀ (d i : Nat) (v : Int), i + d = l.length → 0 ≤ v → v ≤ n → ∃ s, Ev (fun k => laws_szFileS.l0 k l v (i : Int)) s ∧ (s = -1 ∨ 0 ≤ s ∧ s ≤ n ∧ ∀ x ∈ l.drop i, BFile x n) := by
      intro d
      induction d with
      | zero =>
        intro i v hi hv0 hv1
        exact ⟨v, ev_succ (ev_of_eq fun k => by simp only [laws_szFileS.l0]; rw [if_neg (by omega)]), .inr ⟨hv0, hv1, fun x hx => by rw [List.drop_eq_nil_of_le (by omega)] at hx; simp at hx⟩⟩
      | succ d ih =>
        intro i v hi hv0 hv1
        have hmem : rd_T67 l (i : Int) ∈ l := by
          unfold rd_T67
          rw [Int.toNat_natCast, List.getD_eq_getElem?_getD, List.getElem?_eq_getElem (by omega), Option.getD_some]
          exact List.getElem_mem _
        obtain ⟨s, hs, hle, hor, hB⟩ := szFile_some (rd_T67 l (i : Int)) (hg.2 _ hmem) v hv0 (by omega)
        by_cases hs0 : s < 0
        · refine ⟨-1, ev_succ (ev_of_eq fun k => ?_), .inl rfl⟩
          simp only [laws_szFileS.l0, hs, Option.bind_some]
          rw [if_pos (by omega), if_pos (by omega), if_pos hs0]
        · obtain ⟨r, hr, hrn⟩ := ih (i + 1) s (by omega) (by omega) (by omega)
          refine ⟨r, ev_succ (ev_congr (fun k => ?_) hr), ?_⟩
          · simp only [laws_szFileS.l0, hs, Option.bind_some]
            rw [if_pos (by omega), if_pos (by omega), if_neg hs0, wrap_in (x := (i : Int) + 1) (by omega) (by omega)]
            rfl
          · rcases hrn with h | ⟨ha, hb, hall⟩
            · exact .inl h
            · refine .inr ⟨ha, hb, fun x hx => ?_⟩
              rw [List.drop_eq_getElem_cons (by omega)] at hx
              rcases List.mem_cons.1 hx with rfl | hx
              · have hq := hB (by omega)
                unfold rd_T67 at hq
                rw [Int.toNat_natCast, List.getD_eq_getElem?_getD, List.getElem?_eq_getElem (by omega), Option.getD_some] at hq
                unfold BFile at hq ⊢
                omega
              · exact hall x hx
    obtain ⟨s, hs, hsn⟩ := key l.length 0 (n - (l.length : Int)) (by omega) (by omega) (by omega)
    refine ⟨s, ev_congr (fun k => ?_) hs, ?_⟩
    · unfold laws_szFileS.f
      rw [hw, if_neg hneg]
      rfl
    · rcases hsn with h | ⟨ha, hb, hall⟩
      · exact .inl h
      · exact .inr ⟨ha, by omega, hb, fun x hx => hall x (by simpa using hx)⟩

theorem szDisk_ev (a : Int) (l : List S67) (hg : Open.GL g67 l) (n : Int) (h0 : 0 ≤ n) (h1 : n ≤ 1048576) : ∃ s, Ev (fun k => laws_szDisk.f k a l n) s ∧ (s = -1 ∨ 0 ≤ s ∧ (l.length : Int) ≤ n ∧ s ≤ n ∧ ∀ x ∈ l, BFile x n) := by
  obtain ⟨s, hs, hh⟩ := szFileS_ev l hg n h0 h1
  unfold laws_szDisk.f
  by_cases hneg : s < 0
  · exact ⟨-1, ev_bind hs (ev_if_pos hneg (ev_some _)), .inl rfl⟩
  · exact ⟨s, ev_bind hs (ev_if_neg hneg (ev_some _)), hh⟩
theorem toDisk_ev (a : Int) (l : List S67) (hl : l.length ≤ 1048576) : Ev (fun k => laws_toDisk.f k a l) (a, l.map convFile) := by
  unfold laws_toDisk.f
  exact ev_bind (toFileS_ev l hl) (ev_some _)
theorem conv_bound (l : List S67) (n : Int) (h1 : n ≤ 1048576) (h : ∀ x ∈ l, BFile x n) : ∀ y ∈ l.map convFile, y.f0.size ≤ 1048576 ∧ y.f1.size ≤ 1048576 := by
  intro y hy
  obtain ⟨x, hx, rfl⟩ := List.mem_map.1 hy
  have := h x hx
  unfold BFile at this
  show x.f0.size ≤ 1048576 ∧ x.f1.size ≤ 1048576
  omega

theorem cb_zero : ∀ x y : List UInt8, Lib.compareBytes x y = 0 ↔ x = y
  | [], [] => by simp [Lib.compareBytes]
  | [], _ :: _ => by simp [Lib.compareBytes]
  | _ :: _, [] => by simp [Lib.compareBytes]
  | a :: x, b :: y => by
    simp only [Lib.compareBytes]
    by_cases h1 : a < b
    · rw [if_pos h1]
      have : a ≠ b := fun h => by subst h; exact absurd h1 (UInt8.lt_irrefl _)
      simp [this]
    · rw [if_neg h1]
      by_cases h2 : b < a
      · rw [if_pos h2]
        have : a ≠ b := fun h => by subst h; exact absurd h2 (UInt8.lt_irrefl _)
        simp [this]
      · rw [if_neg h2]
        have : a = b := UInt8.le_antisymm (UInt8.not_lt.1 h2) (UInt8.not_lt.1 h1)
        rw [cb_zero x y]
        simp [this]
theorem bl_less : ∀ x y : List UInt8, Op.bytesLess x y = true ↔ Lib.compareBytes x y < 0
  | [], [] => by simp [Lib.compareBytes, Op.bytesLess]
  | [], _ :: _ => by simp [Lib.compareBytes, Op.bytesLess]
  | _ :: _, [] => by simp [Lib.compareBytes, Op.bytesLess]
  | a :: x, b :: y => by
    simp only [Lib.compareBytes, Op.bytesLess]
    by_cases h1 : a < b
    · simp [h1]
    · rw [if_neg h1]
      by_cases h2 : b < a
      · rw [if_pos h2]
        have : a ≠ b := fun h => by subst h; exact absurd h2 (UInt8.lt_irrefl _)
        simp [h1, this]
      · rw [if_neg h2]
        have : a = b := UInt8.le_antisymm (UInt8.not_lt.1 h2) (UInt8.not_lt.1 h1)
        have := bl_less x y
        simp [h1, ‹a = b›, this]
theorem cb_trans : ∀ x y z : List UInt8, Lib.compareBytes x y < 0 → Lib.compareBytes y z < 0 → Lib.compareBytes x z < 0
  | [], y, [], h1, h2 => by cases y <;> simp [Lib.compareBytes] at h1 h2
  | [], _, _ :: _, _, _ => by simp [Lib.compareBytes]
  | _ :: _, [], _, h1, _ => by simp [Lib.compareBytes] at h1
  | _ :: _, _ :: _, [], _, h2 => by simp [Lib.compareBytes] at h2
  | a :: x, b :: y, c :: z, h1, h2 => by
    simp only [Lib.compareBytes] at h1 h2 ⊢
    by_cases p1 : a < b
    · by_cases p2 : b < c
      · rw [if_pos (UInt8.lt_trans p1 p2)]; decide
      · rw [if_neg p2] at h2
        by_cases p3 : c < b
        · rw [if_pos p3] at h2; exact absurd h2 (by decide)
        · have e : b = c := UInt8.le_antisymm (UInt8.not_lt.1 p3) (UInt8.not_lt.1 p2)
          subst e
          rw [if_pos p1]; decide
    · rw [if_neg p1] at h1
      by_cases p2 : b < a
      · rw [if_pos p2] at h1; exact absurd h1 (by decide)
      · rw [if_neg p2] at h1
        have e : a = b := UInt8.le_antisymm (UInt8.not_lt.1 p2) (UInt8.not_lt.1 p1)
        subst e
        by_cases p3 : a < c
        · rw [if_pos p3]; decide
        · rw [if_neg p3] at h2 ⊢
          by_cases p4 : c < a
          · rw [if_pos p4] at h2; exact absurd h2 (by decide)
          · rw [if_neg p4] at h2 ⊢
            exact cb_trans x y z h1 h2
/-- How two names stand to each other. -/
def cmpB (a b : ByteArray) : Int := Lib.compareBytes a.data.toList b.data.toList
theorem cmp_zero (a b : ByteArray) : cmpB a b = 0 ↔ a = b := by
  unfold cmpB
  rw [cb_zero]
  constructor
  · intro h; exact ByteArray.ext (Array.toList_inj.1 h)
  · intro h; rw [h]
theorem cmp_less (a b : ByteArray) : Op.bytesLess a.toList b.toList = true ↔ cmpB a b < 0 := by
  unfold cmpB
  rw [ByteArray.toList_eq, ByteArray.toList_eq, bl_less]
theorem cmp_trans (a b c : ByteArray) (h1 : cmpB a b < 0) (h2 : cmpB b c < 0) : cmpB a c < 0 := cb_trans _ _ _ h1 h2
/-- The names rise. -/
def Rising (l : List S69) : Prop := ∀ j : Nat, 0 < j → j < l.length → cmpB (rd_T69 l ((j - 1 : Nat) : Int)).f0 (rd_T69 l (j : Int)).f0 < 0
theorem rising_from (l : List S69) (room : Int) (hl : l.length ≤ 1048576) (k : Nat) : ∀ i : Nat, impl_DiskOK.l0 k l (l.length : Int) (i : Int) room l = some true → ∀ j : Nat, i ≤ j → 0 < j → j < l.length → cmpB (rd_T69 l ((j - 1 : Nat) : Int)).f0 (rd_T69 l (j : Int)).f0 < 0 := by
  induction k with
  | zero => intro i h; simp [impl_DiskOK.l0] at h
  | succ k ih =>
    intro i h j hij h0 hj
    simp only [impl_DiskOK.l0] at h
    have hw : wrap64 ((i : Int) + 1) = ((i + 1 : Nat) : Int) := by rw [wrap_in (by omega) (by omega)]; omega
    rw [if_pos (by omega), if_pos (by omega), if_pos (by omega), hw] at h
    replace h := Option.bind_eq_some_iff.mp h
    obtain ⟨t, ht, h⟩ := h
    by_cases c1 : t = true
    · rw [if_pos c1] at h
      by_cases c2 : (i : Int) > 0
      · have hp : wrap64 ((i : Int) - 1) = ((i - 1 : Nat) : Int) := by rw [wrap_in (by omega) (by omega)]; omega
        rw [if_pos c2, hp, if_pos (by omega), if_pos (by omega)] at h
        by_cases c3 : Op.bytesLess ((rd_T69 l ((i - 1 : Nat) : Int)).f0.toList) ((rd_T69 l (i : Int)).f0.toList) = true
        · rw [if_pos c3] at h
          replace h := Option.bind_eq_some_iff.mp h
          obtain ⟨u, hu, h⟩ := h
          by_cases c4 : u = true
          · rw [if_pos c4] at h
            rcases Nat.eq_or_lt_of_le hij with rfl | hlt
            · exact (cmp_less _ _).1 c3
            · exact ih (i + 1) h j (by omega) h0 hj
          · rw [if_neg c4] at h; simp at h
        · rw [if_neg c3] at h; simp at h
      · rw [if_neg c2] at h
        replace h := Option.bind_eq_some_iff.mp h
        obtain ⟨u, hu, h⟩ := h
        by_cases c4 : u = true
        · rw [if_pos c4] at h
          exact ih (i + 1) h j (by omega) h0 hj
        · rw [if_neg c4] at h; simp at h
    · rw [if_neg c1] at h; simp at h
/-- A disk that is right has at most eight files, and their names rise. -/
theorem disk_rising (room : Int) (l : List S69) (hl : l.length ≤ 1048576) (h : Ev (fun k => impl_DiskOK.f k room l) true) : Rising l ∧ l.length ≤ 8 := by
  obtain ⟨K, h⟩ := h
  replace h := h (K + 1) (by omega)
  simp only [impl_DiskOK.f] at h
  replace h := Option.bind_eq_some_iff.mp h
  obtain ⟨t, ht, h⟩ := h
  have jbad : ∀ k, impl_DiskOK.j0 k true room l ≠ some true := fun k => by
    cases k with
    | zero => simp [impl_DiskOK.j0]
    | succ k => simp only [impl_DiskOK.j0]; rw [if_pos (by first | rfl | trivial)]; simp
  by_cases c1 : t = true
  · rw [if_pos c1] at h
    by_cases c2 : (l.length : Int) > 8
    · rw [if_pos c2] at h; exact absurd h (jbad _)
    · rw [if_neg c2] at h
      replace h := Option.bind_eq_some_iff.mp h
      obtain ⟨u, hu, h⟩ := h
      by_cases c3 : u > room
      · rw [decide_eq_true c3] at h; exact absurd h (jbad _)
      · rw [decide_eq_false c3] at h
        simp only [impl_DiskOK.j0] at h
        rw [if_neg (by simp)] at h
        exact ⟨fun j h0 hj => rising_from l room hl _ 0 h j (by omega) h0 hj, by omega⟩
  · rw [if_neg c1] at h; exact absurd h (jbad _)
theorem rising_less (l : List S69) (h : Rising l) (d : Nat) : ∀ i : Nat, i + d + 1 < l.length → cmpB (rd_T69 l (i : Int)).f0 (rd_T69 l ((i + d + 1 : Nat) : Int)).f0 < 0 := by
  induction d with
  | zero => intro i hi; exact h (i + 1) (by omega) hi
  | succ d ih =>
    intro i hi
    have h1 := ih i (by omega)
    have h2 := h (i + (d + 1) + 1) (by omega) hi
    exact cmp_trans _ _ _ h1 h2
/-- Below a name: if one is, all ahead of it are. -/
theorem below_down (l : List S69) (h : Rising l) (x : ByteArray) (i j : Nat) (hij : i ≤ j) (hj : j < l.length) (hb : cmpB (rd_T69 l (j : Int)).f0 x < 0) : cmpB (rd_T69 l (i : Int)).f0 x < 0 := by
  rcases Nat.eq_or_lt_of_le hij with rfl | hlt
  · exact hb
  · have := rising_less l h (j - i - 1) i (by omega)
    rw [show i + (j - i - 1) + 1 = j by omega] at this
    exact cmp_trans _ _ _ this hb

theorem eqFile_same (a0) (a1) (a2) : laws_eqFile.f a0 a1 a2 a0 a1 a2 = some true := by
  unfold laws_eqFile.f
  repeat' split
  all_goals first | rfl | (exfalso; simp_all)
theorem eqFileS_ev (l : List S69) (hl : l.length ≤ 1048576) : Ev (fun k => laws_eqFileS.f k l l) true := by
  have key := ev_loop (fun k (i : Int) => laws_eqFileS.l0 k l l i) (fun i => 0 ≤ i ∧ i ≤ l.length) (fun i => l.length - i.toNat) (fun _ => true) (by
    rintro i ⟨h0, h1⟩
    by_cases hi : i < (l.length : Int)
    · right
      refine ⟨i + 1, ⟨by omega, by omega⟩, by omega, rfl, 0, fun j _ => ?_⟩
      simp only [laws_eqFileS.l0, eqFile_same, Option.bind_some]
      rw [if_pos hi, if_pos h0, if_pos hi, if_pos trivial, wrap_in (by omega) (by omega)]
    · left
      refine ⟨0, fun j _ => ?_⟩
      simp only [laws_eqFileS.l0]
      rw [if_neg hi])
  refine ev_congr (fun k => ?_) (key 0 ⟨by omega, by omega⟩)
  unfold laws_eqFileS.f
  rw [if_pos rfl]

theorem eqDisk_ev (a : Int) (l : List S69) (hl : l.length ≤ 1048576) : Ev (fun k => laws_eqDisk.f k a l a l) true := by
  unfold laws_eqDisk.f
  exact ev_if_pos rfl (ev_bind (eqFileS_ev l hl) (ev_if_pos rfl (ev_some _)))

theorem find_from (l : List S69) (room : Int) (x : ByteArray) (hl : l.length ≤ 1048576) (q : Nat) (hq : q < l.length) (he : (rd_T69 l (q : Int)).f0 = x) (d : Nat) : ∀ i : Nat, i + d = q → (∀ m, m < q → (rd_T69 l (m : Int)).f0 ≠ x) → Ev (fun k => spec_l03Find.l0 k x (i : Int) room l) (q : Int) := by
  induction d with
  | zero =>
    intro i hi hne
    obtain rfl : i = q := by omega
    refine ev_succ ?_
    simp only [spec_l03Find.l0]
    exact ev_if_pos (by omega) (ev_if_pos (by omega) (ev_if_pos (by rw [he]) (ev_some _)))
  | succ d ih =>
    intro i hi hne
    have hw : wrap64 ((i : Int) + 1) = ((i + 1 : Nat) : Int) := by rw [wrap_in (by omega) (by omega)]; omega
    have := ih (i + 1) (by omega) hne
    refine ev_succ ?_
    simp only [spec_l03Find.l0, hw]
    refine ev_if_pos (by omega) (ev_if_pos (by omega) (ev_if_neg (fun hh => hne i (by omega) ?_) this))
    rw [ByteArray.toList_eq, ByteArray.toList_eq] at hh
    exact ByteArray.ext (Array.toList_inj.1 hh)
theorem find_none (l : List S69) (room : Int) (x : ByteArray) (hl : l.length ≤ 1048576) (hne : ∀ m, m < l.length → (rd_T69 l (m : Int)).f0 ≠ x) (d : Nat) : ∀ i : Nat, i + d = l.length → Ev (fun k => spec_l03Find.l0 k x (i : Int) room l) (-1) := by
  induction d with
  | zero =>
    intro i hi
    refine ev_succ ?_
    simp only [spec_l03Find.l0]
    exact ev_if_neg (by omega) (ev_some _)
  | succ d ih =>
    intro i hi
    have hw : wrap64 ((i : Int) + 1) = ((i + 1 : Nat) : Int) := by rw [wrap_in (by omega) (by omega)]; omega
    have := ih (i + 1) (by omega)
    refine ev_succ ?_
    simp only [spec_l03Find.l0, hw]
    refine ev_if_pos (by omega) (ev_if_pos (by omega) (ev_if_neg (fun hh => hne i (by omega) ?_) this))
    rw [ByteArray.toList_eq, ByteArray.toList_eq] at hh
    exact ByteArray.ext (Array.toList_inj.1 hh)

theorem mem_tw (p : UInt8 → Bool) (l : List UInt8) : ∀ x ∈ l.takeWhile p, p x = true := by
  induction l with
  | nil => intro x hx; simp at hx
  | cons a l ih =>
    intro x hx
    rw [List.takeWhile_cons] at hx
    split at hx
    · rcases List.mem_cons.1 hx with rfl | h
      · assumption
      · exact ih x h
    · simp at hx
theorem dw_nil (p : UInt8 → Bool) (l : List UInt8) : l.dropWhile p = [] ↔ ∀ x ∈ l, p x = true := by
  induction l with
  | nil => exact ⟨fun _ x hx => by simp at hx, fun _ => rfl⟩
  | cons a l ih =>
    rw [List.dropWhile_cons]
    by_cases h : p a = true
    · rw [if_pos h, ih]
      exact ⟨fun g x hx => by
        rcases List.mem_cons.1 hx with rfl | h2
        · exact h
        · exact g x h2, fun g x hx => g x (List.mem_cons_of_mem _ hx)⟩
    · rw [if_neg h]
      exact ⟨fun g => by simp at g, fun g => absurd (g a List.mem_cons_self) h⟩
theorem trim_nil (l cs : List UInt8) : Lib.trimS l cs = [] ↔ ∀ b ∈ l, cs.contains b = true := by
  unfold Lib.trimS Lib.trimLeftS Lib.trimRightS
  rw [dw_nil]
  constructor
  · intro h b hb
    have h1 : b ∈ l.reverse := List.mem_reverse.2 hb
    rw [← List.takeWhile_append_dropWhile (p := fun x => cs.contains x) (l := l.reverse)] at h1
    rcases List.mem_append.1 h1 with h2 | h2
    · exact mem_tw _ _ b h2
    · exact h b (List.mem_reverse.2 h2)
  · intro h b hb
    have h1 := List.mem_reverse.1 hb
    have h2 : b ∈ l.reverse := (List.dropWhile_sublist _).mem h1
    exact h b (List.mem_reverse.1 h2)

def decL : List UInt8 := [48, 49, 50, 51, 52, 53, 54, 55, 56, 57]
theorem dec_all : ∀ n : Fin 256, decL.contains (n.val.toUInt8) = decide (48 ≤ n.val ∧ n.val ≤ 57) := by decide +kernel
theorem dec_contains (b : UInt8) : decL.contains b = decide (48 ≤ b.toNat ∧ b.toNat ≤ 57) := by
  have h := dec_all ⟨b.toNat, b.toNat_lt⟩
  have hb : b.toNat.toUInt8 = b := by show UInt8.ofNat b.toNat = b; simp
  rw [hb] at h
  exact h
/-- The number of a segment's name, 0 of others. -/
def segN (x : ByteArray) : Int := if x.size = 3 ∧ bt x 0 = 115 ∧ (48 ≤ bt x 1 ∧ bt x 1 ≤ 57) ∧ (48 ≤ bt x 2 ∧ bt x 2 ≤ 57) then 10 * (bt x 1 - 48) + (bt x 2 - 48) else 0
theorem three (x : ByteArray) (h : x.size = 3) : ∃ a b c : UInt8, x = ⟨#[a, b, c]⟩ := by
  obtain ⟨⟨l⟩⟩ := x
  have h' : l.length = 3 := h
  match l, h' with
  | [a, b, c], _ => exact ⟨a, b, c, rfl⟩
theorem bt_three (a b c : UInt8) : bt (⟨#[a, b, c]⟩ : ByteArray) 0 = (a.toNat : Int) ∧ bt (⟨#[a, b, c]⟩ : ByteArray) 1 = (b.toNat : Int) ∧ bt (⟨#[a, b, c]⟩ : ByteArray) 2 = (c.toNat : Int) := ⟨rfl, rfl, rfl⟩
theorem segN_range (x : ByteArray) : 0 ≤ segN x ∧ segN x ≤ 99 := by
  unfold segN
  split <;> omega
theorem dig_eq (a : Int) : spec_l00Digit.f a = some (decide (48 ≤ a ∧ a ≤ 57)) := by
  unfold spec_l00Digit.f
  by_cases h : a ≥ 48
  · rw [if_pos h]
    congr 1
    rw [Bool.eq_iff_iff, decide_eq_true_iff, decide_eq_true_iff]
    omega
  · rw [if_neg h]
    congr 1
    symm
    exact decide_eq_false (by omega)
theorem number_eq (x : ByteArray) : spec_l04Number.f x = some (segN x) := by
  have h1 := bt_range x 1
  have h2 := bt_range x 2
  have w1 : wrap64 (bt x 1) = bt x 1 := wrap_in (by omega) (by omega)
  have w2 : wrap64 (bt x 2) = bt x 2 := wrap_in (by omega) (by omega)
  have w3 : wrap64 (bt x 1 - 48) = bt x 1 - 48 := wrap_in (by omega) (by omega)
  have w4 : wrap64 (10 * (bt x 1 - 48)) = 10 * (bt x 1 - 48) := wrap_in (by omega) (by omega)
  have w5 : wrap64 (10 * (bt x 1 - 48) + bt x 2) = 10 * (bt x 1 - 48) + bt x 2 := wrap_in (by omega) (by omega)
  have w6 : wrap64 (10 * (bt x 1 - 48) + bt x 2 - 48) = 10 * (bt x 1 - 48) + (bt x 2 - 48) := (wrap_in (by omega) (by omega)).trans (by omega)
  unfold spec_l04Number.f segN
  simp only [dig_eq, Option.bind_some, w1, w2, w3, w4, w5, w6]
  clear w1 w2 w3 w4 w5 w6
  by_cases c1 : x.size = 3
  · rw [if_pos (by omega), if_pos (by omega)]
    by_cases c2 : bt x 0 = 115
    · rw [if_pos c2, if_pos (by omega)]
      by_cases c3 : 48 ≤ bt x 1 ∧ bt x 1 ≤ 57
      · rw [decide_eq_true c3, if_pos rfl, if_pos (by omega)]
        by_cases c4 : 48 ≤ bt x 2 ∧ bt x 2 ≤ 57
        · rw [decide_eq_true c4, if_pos rfl, if_pos ⟨c1, c2, c3, c4⟩]
        · rw [decide_eq_false c4, if_neg (by simp), if_neg (fun h => c4 h.2.2.2)]
      · rw [decide_eq_false c3, if_neg (by simp), if_neg (fun h => c3 h.2.2.1)]
    · rw [if_neg c2, if_neg (fun h => c2 h.2.1)]
  · rw [if_neg (by omega), if_neg (fun h => c1 h.1)]
theorem segOf_eq (x : ByteArray) : impl_segmentOf.f x = some (segN x) := by
  unfold impl_segmentOf.f
  by_cases c1 : x.size = 3
  · obtain ⟨a, b, c, rfl⟩ := three x c1
    obtain ⟨e0, e1, e2⟩ := bt_three a b c
    have hb := b.toNat_lt
    have hc := c.toNat_lt
    rw [if_pos (show ((⟨#[a, b, c]⟩ : ByteArray).size : Int) = 3 from rfl), if_pos (by show (0 : Int) < ((3 : Nat) : Int); omega)]
    unfold segN
    by_cases c2 : bt (⟨#[a, b, c]⟩ : ByteArray) 0 = 115
    · rw [if_pos c2, if_pos (by show (1 : Int) ≤ ((3 : Nat) : Int); omega)]
      have ht : strings_Trim.f ((⟨#[a, b, c]⟩ : ByteArray).extract 1 (⟨#[a, b, c]⟩ : ByteArray).size) (⟨#[48, 49, 50, 51, 52, 53, 54, 55, 56, 57]⟩ : ByteArray) = some ⟨(Lib.trimS [b, c] decL).toArray⟩ := by
        unfold strings_Trim.f
        rw [if_pos ⟨by show (2 : Nat) ≤ _; omega, by decide, by decide⟩]
        rfl
      rw [ht, Option.bind_some]
      have hn : (⟨(Lib.trimS [b, c] decL).toArray⟩ : ByteArray).toList = ([] : List UInt8) ↔ (48 ≤ b.toNat ∧ b.toNat ≤ 57) ∧ (48 ≤ c.toNat ∧ c.toNat ≤ 57) := by
        rw [ByteArray.toList_eq]
        show Lib.trimS [b, c] decL = [] ↔ _
        rw [trim_nil]
        simp only [List.mem_cons, List.not_mem_nil, or_false, forall_eq_or_imp, forall_eq, dec_contains, decide_eq_true_iff]
      by_cases c3 : (48 ≤ b.toNat ∧ b.toNat ≤ 57) ∧ (48 ≤ c.toNat ∧ c.toNat ≤ 57)
      · rw [if_pos (hn.2 c3), if_pos (by show (1 : Int) < ((3 : Nat) : Int); omega), if_pos (by show (2 : Int) < ((3 : Nat) : Int); omega), if_pos ⟨rfl, c2, by rw [e1, e2]; omega⟩, e1, e2]
        congr 1
        omega
      · rw [if_neg (fun h => c3 (hn.1 h)), if_neg (fun h => c3 (by have h3 := h.2.2; rw [e1, e2] at h3; omega))]
    · rw [if_neg c2, if_neg (fun h => c2 h.2.1)]
  · rw [if_neg (by omega)]
    unfold segN
    rw [if_neg (fun h => c1 h.1)]
theorem digit_ev (d : Int) (h0 : 0 ≤ d) (h9 : d ≤ 9) : Ev (fun k => spec_l00Digits.f k d) (strOfNums [48 + d]) := by
  have w : (wrap64 (48 + d)) % 256 = 48 + d := by rw [wrap_in (by omega) (by omega)]; omega
  refine ev_succ ?_
  simp only [spec_l00Digits.f, w]
  exact ev_if_neg (by omega) (ev_if_neg (by omega) (ev_if_pos (by omega) (ev_some _)))
/-- The name of a number of two digits. -/
theorem segName_ev (d e : Int) (h0 : 0 ≤ d) (h9 : d ≤ 9) (k0 : 0 ≤ e) (k9 : e ≤ 9) : Ev (fun k => spec_l04Name.f k (10 * d + e)) (strOfNums [115, 48 + d, 48 + e]) := by
  have h1 : wrap64 (Int.tdiv (10 * d + e) 10) = d := by
    rw [Int.tdiv_eq_ediv_of_nonneg (by omega), wrap_in (by omega) (by omega)]
    omega
  have h2 : Int.tmod (10 * d + e) 10 = e := by
    rw [Int.tmod_eq_emod_of_nonneg (by omega)]
    omega
  have hs : (strOfNums [115, 48 + d, 48 + e]) = ((⟨#[115]⟩ : ByteArray) ++ strOfNums [48 + d]) ++ strOfNums [48 + e] := by
    show strOfNums ([115] ++ [48 + d] ++ [48 + e]) = _
    rw [strOfNums_append, strOfNums_append]
    rfl
  unfold spec_l04Name.f
  simp only [h1, h2]
  rw [hs]
  exact ev_bind (digit_ev d h0 h9) (ev_if_pos (by rw [size_strOfNums]; simp) (ev_bind (digit_ev e k0 k9) (ev_if_pos (by rw [size_strOfNums, size_strOfNums]; simp) (ev_some _))))
theorem name_back (x : ByteArray) (h : segN x > 0) : Ev (fun k => spec_l04Name.f k (segN x)) x := by
  unfold segN at h ⊢
  split at h
  · rename_i hc
    rw [if_pos hc]
    obtain ⟨c1, c2, c3, c4⟩ := hc
    have := segName_ev (bt x 1 - 48) (bt x 2 - 48) (by omega) (by omega) (by omega) (by omega)
    have hx : strOfNums [115, 48 + (bt x 1 - 48), 48 + (bt x 2 - 48)] = x := by
      have hb := strOfNums_bytesOf x
      have hl : bytesOf x = [115, 48 + (bt x 1 - 48), 48 + (bt x 2 - 48)] := by
        obtain ⟨a, b, c, rfl⟩ := three x c1
        obtain ⟨e0, e1, e2⟩ := bt_three a b c
        rw [e1, e2]
        rw [e0] at c2
        show [(a.toNat : Int), (b.toNat : Int), (c.toNat : Int)] = _
        rw [c2]
        congr 2
        · omega
        · congr 1
          omega
      rw [← hl]
      exact hb
    rw [hx] at this
    exact this
  · omega

/-- Each number has a mark. -/
theorem markText_from (n : Nat) : ∀ (x : Int) (acc : ByteArray), x.toNat ≤ n → acc.size + n ≤ 4000000000 → ∃ t : ByteArray, Ev (fun k => laws_markText.l0 k x acc) t := by
  induction n with
  | zero =>
    intro x acc hx ha
    refine ⟨(⟨#[109]⟩ : ByteArray) ++ acc, ev_succ ?_⟩
    simp only [laws_markText.l0]
    exact ev_if_neg (by omega) (ev_if_pos (by omega) (ev_some _))
  | succ n ih =>
    intro x acc hx ha
    by_cases hp : x > 0
    · have hw : Aside0 (wrap64 (Int.tdiv x 10) = x / 10 ∨ ¬ x ≤ 9223372036854775807) := ⟨by
        rw [Int.tdiv_eq_ediv_of_nonneg (by omega)]
        by_cases h : x ≤ 9223372036854775807
        · exact .inl (wrap_in (by omega) (by omega))
        · exact .inr h⟩
      rcases hw.out with hq | hq
      · have hsz : (strOfNums [(wrap64 (48 + (Int.tmod x 10))) % 256]).size = 1 := size_strOfNums _
        obtain ⟨t, ht⟩ := ih (x / 10) (strOfNums [(wrap64 (48 + (Int.tmod x 10))) % 256] ++ acc) (by omega) (by rw [ByteArray.size_append, hsz]; omega)
        refine ⟨t, ev_succ ?_⟩
        simp only [laws_markText.l0, Option.bind_some, hq]
        exact ev_if_pos hp (ev_if_pos (by omega) ht)
      · exfalso; omega
    · refine ⟨(⟨#[109]⟩ : ByteArray) ++ acc, ev_succ ?_⟩
      simp only [laws_markText.l0]
      exact ev_if_neg hp (ev_if_pos (by omega) (ev_some _))
theorem markText_ex (x : Int) (hx : x ≤ 1000000000) : ∃ t : ByteArray, Ev (fun k => laws_markText.f k x) t := by
  unfold laws_markText.f
  by_cases h : x ≤ 0
  · exact ⟨_, ev_if_pos h (ev_some _)⟩
  · obtain ⟨t, ht⟩ := markText_from x.toNat x ⟨#[]⟩ (by omega) (by show 0 + _ ≤ _; omega)
    exact ⟨t, ev_if_neg h ht⟩
open Classical in
noncomputable def markT (x : Int) : ByteArray := if h : ∃ t : ByteArray, Ev (fun k => laws_markText.f k x) t then h.choose else ⟨#[]⟩
theorem markText_ev (x : Int) (hx : x ≤ 1000000000) : Ev (fun k => laws_markText.f k x) (markT x) := by
  unfold markT
  rw [dif_pos (markText_ex x hx)]
  exact (markText_ex x hx).choose_spec

/-- What the marks of files are. -/
noncomputable def marksF (n : Nat) : List S69 := (List.range n).map fun i => (⟨markT (3 * ((i : Nat) : Int) + 1), markT (3 * ((i : Nat) : Int) + 2), 3 * ((i : Nat) : Int) + 3⟩ : S69)
theorem marksF_length (n : Nat) : (marksF n).length = n := by simp [marksF]
theorem marksF_rd (n i : Nat) (h : i < n) : rd_T69 (marksF n) (i : Int) = (⟨markT (3 * (i : Int) + 1), markT (3 * (i : Int) + 2), 3 * (i : Int) + 3⟩ : S69) := by
  unfold rd_T69 marksF
  rw [Int.toNat_natCast, List.getD_eq_getElem?_getD, List.getElem?_map, List.getElem?_range h]
  rfl
theorem rdF_get (x : List S69) (i : Nat) (h : i < x.length) (v : S69) : rd_T69 (x.set i v) (i : Int) = v := by
  unfold rd_T69
  rw [Int.toNat_natCast, List.getD_eq_getElem?_getD, List.getElem?_set_self h, Option.getD_some]
theorem markFileS_from (n d : Nat) (hn : n ≤ 10000000) : ∀ (i : Nat) (x : List S69), i + d = n → x.length = n → (∀ j, j < i → x[j]? = (marksF n)[j]?) → Ev (fun k => laws_markFileS.l0 k x (3 * (i : Int) + 1) (i : Int)) (3 * (n : Int) + 1, marksF n) := by
  have hml := marksF_length n
  induction d with
  | zero =>
    intro i x hi hx h
    refine ev_succ ?_
    simp only [laws_markFileS.l0]
    rw [show x = marksF n from copy_end (marksF n) x (by rw [hml]; exact hx) (fun j hj => h j (by rw [hml] at hj; omega)), show (i : Int) = (n : Int) from by omega]
    exact ev_if_neg (by rw [hml]; omega) (ev_some _)
  | succ d ih =>
    intro i x hi hx h
    have hrd := marksF_rd n i (by omega)
    have hget : (marksF n).getD i z69 = (⟨markT (3 * (i : Int) + 1), markT (3 * (i : Int) + 2), 3 * (i : Int) + 3⟩ : S69) := by
      unfold marksF
      rw [List.getD_eq_getElem?_getD, List.getElem?_map, List.getElem?_range (by omega)]
      rfl
    obtain ⟨hs1, hs2⟩ := copy_step (marksF n) x i z69 (by rw [hml]; exact hx) (by rw [hml]; omega) h
    rw [hget] at hs1 hs2
    rw [hml] at hs1
    have := ih (i + 1) _ (by omega) hs1 hs2
    have w1 : Aside0 (wrap64 (3 * (i : Int) + 1 + 1) = 3 * (i : Int) + 2) := ⟨(wrap_in (by omega) (by omega)).trans (by omega)⟩
    have w2 : Aside0 (wrap64 (3 * (i : Int) + 2 + 1) = 3 * (i : Int) + 3) := ⟨(wrap_in (by omega) (by omega)).trans (by omega)⟩
    have w4 : Aside0 (wrap64 (3 * (i : Int) + 3 + 1) = 3 * ((i + 1 : Nat) : Int) + 1) := ⟨(wrap_in (by omega) (by omega)).trans (by omega)⟩
    have w3 : Aside0 (wrap64 ((i : Int) + 1) = ((i + 1 : Nat) : Int)) := ⟨(wrap_in (by omega) (by omega)).trans (by omega)⟩
    refine ev_succ ?_
    simp only [laws_markFileS.l0, w1.out, w2.out, w3.out, w4.out, Int.toNat_natCast, Option.bind_some, rdF_get x i (by omega), List.set_set]
    exact ev_if_pos (by omega) (ev_bind (markText_ev _ (by omega)) (ev_if_pos (by omega) (ev_bind (markText_ev _ (by omega)) this)))
theorem markFileS_ev (l : List S69) (hl : l.length ≤ 10000000) : Ev (fun k => laws_markFileS.f k l 1) (3 * (l.length : Int) + 1, marksF l.length) := by
  unfold laws_markFileS.f
  exact markFileS_from l.length l.length hl 0 l (by omega) rfl (fun j hj => absurd hj (by omega))
theorem heldFileS_from (n d : Nat) (hn : n ≤ 10000000) : ∀ i : Nat, i + d = n → Ev (fun k => laws_heldFileS.l0 k (marksF n) (3 * (i : Int) + 1) (i : Int)) (3 * (n : Int) + 1) := by
  have hml := marksF_length n
  induction d with
  | zero =>
    intro i hi
    refine ev_succ ?_
    simp only [laws_heldFileS.l0]
    rw [show (i : Int) = (n : Int) from by omega]
    exact ev_if_neg (by rw [hml]; omega) (ev_some _)
  | succ d ih =>
    intro i hi
    have := ih (i + 1) (by omega)
    have hrd := marksF_rd n i (by omega)
    have w1 : Aside0 (wrap64 (3 * (i : Int) + 1 + 1) = 3 * (i : Int) + 2) := ⟨(wrap_in (by omega) (by omega)).trans (by omega)⟩
    have w2 : Aside0 (wrap64 (3 * (i : Int) + 2 + 1) = 3 * (i : Int) + 3) := ⟨(wrap_in (by omega) (by omega)).trans (by omega)⟩
    have w4 : Aside0 (wrap64 (3 * (i : Int) + 3 + 1) = 3 * ((i + 1 : Nat) : Int) + 1) := ⟨(wrap_in (by omega) (by omega)).trans (by omega)⟩
    have w3 : Aside0 (wrap64 ((i : Int) + 1) = ((i + 1 : Nat) : Int)) := ⟨(wrap_in (by omega) (by omega)).trans (by omega)⟩
    refine ev_succ ?_
    simp only [laws_heldFileS.l0, w1.out, w2.out, w3.out, w4.out, hrd]
    exact ev_if_pos (by rw [hml]; omega) (ev_if_pos (by omega) (ev_bind (markText_ev _ (by omega)) (ev_if_pos (by first | rfl | trivial) (ev_bind (markText_ev _ (by omega)) (ev_if_pos (by first | rfl | trivial) (ev_if_pos (by first | rfl | trivial) this))))))
theorem heldFileS_ev (n : Nat) (hn : n ≤ 10000000) : Ev (fun k => laws_heldFileS.f k (marksF n) 1) (3 * (n : Int) + 1) := by
  unfold laws_heldFileS.f
  exact heldFileS_from n n hn 0 (by omega)

/-- The last segment from a place on: where it is, or what was told before. -/
theorem last_eq (l : List S69) (d : Nat) : ∀ (i : Nat) (q : Int), i + d = l.length →
    (impl_walSync.last l d i q = some q ∧ ∀ m, i ≤ m → m < l.length → segN (rd_T69 l (m : Int)).f0 ≤ 0) ∨
    ∃ p : Nat, impl_walSync.last l d i q = some (p : Int) ∧ i ≤ p ∧ p < l.length ∧ segN (rd_T69 l (p : Int)).f0 > 0 ∧ ∀ m, p < m → m < l.length → segN (rd_T69 l (m : Int)).f0 ≤ 0 := by
  induction d with
  | zero => intro i q hi; exact .inl ⟨rfl, fun m h1 h2 => absurd h2 (by omega)⟩
  | succ d ih =>
    intro i q hi
    simp only [impl_walSync.last, segOf_eq, Option.bind_some]
    by_cases hp : segN (rd_T69 l (i : Int)).f0 > 0
    · rw [if_pos hp]
      rcases ih (i + 1) (i : Int) (by omega) with ⟨h1, h2⟩ | ⟨p, h1, h2, h3, h4, h5⟩
      · exact .inr ⟨i, h1, Nat.le_refl _, by omega, hp, fun m a b => h2 m (by omega) b⟩
      · exact .inr ⟨p, h1, by omega, h3, h4, h5⟩
    · rw [if_neg hp]
      rcases ih (i + 1) q (by omega) with ⟨h1, h2⟩ | ⟨p, h1, h2, h3, h4, h5⟩
      · refine .inl ⟨h1, fun m a b => ?_⟩
        rcases Nat.lt_or_ge i m with h | h
        · exact h2 m h b
        · obtain rfl : m = i := by omega
          omega
      · exact .inr ⟨p, h1, by omega, h3, h4, h5⟩
/-- The reference's list of numbers. -/
def segL (l : List S69) : Nat → Nat → List Int
  | 0, _ => []
  | d + 1, i => (if segN (rd_T69 l (i : Int)).f0 > 0 then [segN (rd_T69 l (i : Int)).f0] else []) ++ segL l d (i + 1)
theorem segL_length (l : List S69) (d : Nat) : ∀ i : Nat, (segL l d i).length ≤ d := by
  induction d with
  | zero => intro i; exact Nat.le_refl 0
  | succ d ih =>
    intro i
    have := ih (i + 1)
    simp only [segL, List.length_append]
    split <;> simp <;> omega
theorem segs_ev (room : Int) (l : List S69) (hl : l.length ≤ 1048576) (d : Nat) : ∀ (i : Nat) (acc : List Int), i + d = l.length → acc.length ≤ i → Ev (fun k => spec_l04Segments.l0 k acc (i : Int) room l) (acc ++ segL l d i) := by
  induction d with
  | zero =>
    intro i acc hi ha
    refine ev_succ ?_
    simp only [spec_l04Segments.l0, segL, List.append_nil]
    exact ev_if_neg (by omega) (ev_some _)
  | succ d ih =>
    intro i acc hi ha
    have hw : wrap64 ((i : Int) + 1) = ((i + 1 : Nat) : Int) := by rw [wrap_in (by omega) (by omega)]; omega
    refine ev_succ ?_
    simp only [spec_l04Segments.l0, segL, number_eq, Option.bind_some, hw]
    refine ev_if_pos (by omega) (ev_if_pos (by omega) ?_)
    by_cases hp : segN (rd_T69 l (i : Int)).f0 > 0
    · rw [if_pos hp, ← List.append_assoc]
      exact ev_if_pos hp (ev_if_pos (by omega) (ih (i + 1) _ (by omega) (by simp; omega)))
    · rw [if_neg hp, List.nil_append]
      exact ev_if_neg hp (ih (i + 1) acc (by omega) (by omega))
theorem segL_nil (l : List S69) (d : Nat) : ∀ i : Nat, i + d = l.length → (∀ m, i ≤ m → m < l.length → segN (rd_T69 l (m : Int)).f0 ≤ 0) → segL l d i = [] := by
  induction d with
  | zero => intro i _ _; rfl
  | succ d ih =>
    intro i hi h
    have h0 := h i (Nat.le_refl _) (by omega)
    simp only [segL]
    rw [if_neg (by omega), ih (i + 1) (by omega) (fun m a b => h m (by omega) b)]
    rfl
/-- Its last number is that of the last segment. -/
theorem segL_last (l : List S69) (p : Nat) (hp : p < l.length) (h4 : segN (rd_T69 l (p : Int)).f0 > 0) (h5 : ∀ m, p < m → m < l.length → segN (rd_T69 l (m : Int)).f0 ≤ 0) (d : Nat) :
    ∀ i : Nat, i + d = l.length → i ≤ p → ∃ front, segL l d i = front ++ [segN (rd_T69 l (p : Int)).f0] := by
  induction d with
  | zero => intro i hi hip; omega
  | succ d ih =>
    intro i hi hip
    simp only [segL]
    rcases Nat.lt_or_ge i p with h | h
    · obtain ⟨front, hf⟩ := ih (i + 1) (by omega) (by omega)
      rw [hf, ← List.append_assoc]
      exact ⟨_, rfl⟩
    · obtain rfl : i = p := by omega
      rw [if_pos h4, segL_nil l d (i + 1) (by omega) (fun m a b => h5 m (by omega) b)]
      exact ⟨[], rfl⟩
theorem sync_none (l : List S69) : impl_walSync.sync l (-1) = l := by
  unfold impl_walSync.sync
  rw [if_neg (by omega)]
/-- The reference puts the file at its own place. -/
theorem put_from (room : Int) (l : List S69) (hr : Rising l) (hl : l.length ≤ 8) (q : Nat) (hq : q < l.length) (v : S69) (hv : v.f0 = (rd_T69 l (q : Int)).f0) (d : Nat) : ∀ i : Nat, i + d = l.length →
    Ev (fun k => spec_l03Put.l0 k (decide (q < i)) (i : Int) room l v.f0 v.f1 v.f2 room ((l.set q v).take i)) (room, l.set q v) := by
  induction d with
  | zero =>
    intro i hi
    refine ev_succ ?_
    simp only [spec_l03Put.l0]
    rw [List.take_of_length_le (by rw [List.length_set]; omega)]
    exact ev_if_neg (by omega) (ev_if_pos (decide_eq_true (by omega)) (ev_some _))
  | succ d ih =>
    intro i hi
    have hlt : i < l.length := by omega
    have hw : wrap64 ((i : Int) + 1) = ((i + 1 : Nat) : Int) := by rw [wrap_in (by omega) (by omega)]; omega
    have hsl : (l.set q v).length = l.length := List.length_set
    have htl : ((l.set q v).take i).length = i := by rw [List.length_take, hsl]; omega
    have htake : (l.set q v).take (i + 1) = (l.set q v).take i ++ [(l.set q v)[i]'(by omega)] := List.take_succ_eq_append_getElem (by omega)
    have hnext := ih (i + 1) (by omega)
    rw [htake] at hnext
    have hself : ∀ y : S69, (⟨y.f0, y.f1, y.f2⟩ : S69) = y := fun y => rfl
    refine ev_succ ?_
    simp only [spec_l03Put.l0]
    refine ev_if_pos (by omega) ?_
    rcases Nat.lt_trichotomy i q with h | h | h
    · -- ahead of it
      have hc : cmpB (rd_T69 l (i : Int)).f0 (rd_T69 l (q : Int)).f0 < 0 := by
        have := rising_less l hr (q - i - 1) i (by omega)
        rw [show i + (q - i - 1) + 1 = q by omega] at this
        exact this
      have hbl : Op.bytesLess (rd_T69 l (i : Int)).f0.toList v.f0.toList = true := by rw [hv]; exact (cmp_less _ _).2 hc
      have hne : ¬ (rd_T69 l (i : Int)).f0.toList = v.f0.toList := fun he => by
        have h2 : (rd_T69 l (i : Int)).f0 = (rd_T69 l (q : Int)).f0 := by
          rw [ByteArray.toList_eq, ByteArray.toList_eq] at he
          rw [← hv]
          exact ByteArray.ext (Array.toList_inj.1 he)
        rw [(cmp_zero _ _).2 h2] at hc
        omega
      have hget : (l.set q v)[i]'(by omega) = rd_T69 l (i : Int) := by rw [List.getElem_set_ne (by omega), rd_file l i hlt]
      rw [hget, decide_eq_false (show ¬ q < i + 1 by omega)] at hnext
      rw [decide_eq_false (show ¬ q < i by omega)]
      refine ev_if_neg (by simp) (ev_if_pos (by omega) (ev_succ ?_))
      simp only [spec_l03Put.j1, hw, hself, hbl]
      exact ev_if_neg (by simp) (ev_if_pos (by omega) (ev_if_pos (by omega) (ev_if_neg hne (ev_if_pos (by omega) hnext))))
    · subst h
      have hbl : Op.bytesLess (rd_T69 l (i : Int)).f0.toList v.f0.toList = false := by
        rw [Bool.eq_false_iff]
        intro h2
        have h3 := (cmp_less _ _).1 h2
        rw [(cmp_zero _ _).2 hv.symm] at h3
        omega
      have hget : (l.set i v)[i]'(by omega) = v := List.getElem_set_self _
      rw [hget, decide_eq_true (show i < i + 1 by omega)] at hnext
      rw [decide_eq_false (show ¬ i < i by omega)]
      refine ev_if_neg (by simp) (ev_if_pos (by omega) (ev_succ ?_))
      simp only [spec_l03Put.j1, hw, hself, hbl, Option.bind_some]
      exact ev_if_pos (by simp) (ev_if_pos (by omega) (ev_if_pos (by omega) (ev_if_pos (by omega) (ev_if_pos (by rw [hv]) hnext))))
    · have hc : cmpB (rd_T69 l (q : Int)).f0 (rd_T69 l (i : Int)).f0 < 0 := by
        have := rising_less l hr (i - q - 1) q (by omega)
        rw [show q + (i - q - 1) + 1 = i by omega] at this
        exact this
      have hne : ¬ (rd_T69 l (i : Int)).f0.toList = v.f0.toList := fun he => by
        have h2 : (rd_T69 l (q : Int)).f0 = (rd_T69 l (i : Int)).f0 := by
          rw [ByteArray.toList_eq, ByteArray.toList_eq] at he
          rw [← hv]
          exact (ByteArray.ext (Array.toList_inj.1 he)).symm
        rw [(cmp_zero _ _).2 h2] at hc
        omega
      have hget : (l.set q v)[i]'(by omega) = rd_T69 l (i : Int) := by rw [List.getElem_set_ne (by omega), rd_file l i hlt]
      rw [hget, decide_eq_true (show q < i + 1 by omega)] at hnext
      rw [decide_eq_true (show q < i by omega)]
      refine ev_if_pos rfl (ev_succ ?_)
      simp only [spec_l03Put.j1, hw, hself]
      exact ev_if_neg (by simp) (ev_if_pos (by omega) (ev_if_pos (by omega) (ev_if_neg hne (ev_if_pos (by omega) hnext))))
theorem put_ev (room : Int) (l : List S69) (hr : Rising l) (hl : l.length ≤ 8) (q : Nat) (hq : q < l.length) (v : S69) (hv : v.f0 = (rd_T69 l (q : Int)).f0) : Ev (fun k => spec_l03Put.f k room l v.f0 v.f1 v.f2) (room, l.set q v) := by
  have := put_from room l hr hl q hq v hv l.length 0 (by omega)
  rw [decide_eq_false (show ¬ q < 0 by omega)] at this
  exact this
theorem own_ev (room : Int) (l : List S69) (hl : l.length ≤ 1000) : Ev (fun _ => spec_l03Own.f room l) (room, l) := by
  unfold spec_l03Own.f
  simp only [Option.bind_some]
  exact ev_if_pos (by simp only [List.length_nil]; omega) (ev_some _)
theorem sync_answer (room : Int) (l : List S69) (hl : l.length ≤ 1048576) (hB : ∀ x ∈ l, x.f0.size ≤ 1048576 ∧ x.f1.size ≤ 1048576) :
    ∃ (a : Int) (L : List S69) (e : Int), Ev (fun k => spec_WalSync.f k room l) (a, L, e) ∧ Ev (fun k => impl_WalSync.f k room l) (a, L, e) ∧ L.length ≤ 1048576 := by
  obtain ⟨b, h1, h2⟩ := disk_same room l hl hB
  unfold spec_WalSync.f impl_WalSync.f
  cases b with
  | false => exact ⟨0, [], 1, ev_bind h1 (ev_if_neg (by simp) (ev_some _)), ev_bind h2 (ev_if_neg (by simp) (ev_some _)), by simp⟩
  | true =>
    obtain ⟨hr, h8⟩ := disk_rising room l hl h2
    have hseg : Ev (fun k => spec_l04Segments.f k room l) (segL l l.length 0) := segs_ev room l hl l.length 0 [] (by omega) (by simp)
    have hsl := segL_length l l.length 0
    have himp : ∀ q : Int, impl_walSync.last l l.length 0 (-1) = some q → impl_walSync.f room l = some (room, impl_walSync.sync l q) := by
      intro q hq
      unfold impl_walSync.f
      rw [if_pos (by omega), hq]
      rfl
    rcases last_eq l l.length 0 (-1) (by omega) with ⟨e1, e2⟩ | ⟨p, e1, _, e3, e4, e5⟩
    · have hnil := segL_nil l l.length 0 (by omega) (fun m _ b => e2 m (by omega) b)
      rw [hnil] at hseg
      refine ⟨room, l, 0, ev_bind h1 (ev_if_pos rfl (ev_bind (a := (room, l)) ?_ (ev_bind (own_ev room l (by omega)) (ev_some _)))), ev_bind h2 (ev_if_pos rfl ?_), by omega⟩
      · unfold spec_l04Sync.f
        exact ev_bind hseg (ev_if_pos (by simp) (ev_some _))
      · rw [himp _ e1, sync_none]
        exact ev_some _
    · obtain ⟨front, hf⟩ := segL_last l p e3 e4 e5 l.length 0 (by omega) (by omega)
      rw [hf] at hseg
      rw [hf, List.length_append] at hsl
      have hlen : ((front ++ [segN (rd_T69 l (p : Int)).f0]).length : Int) = (front.length : Int) + 1 := by rw [List.length_append]; simp
      have hw : wrap64 (((front ++ [segN (rd_T69 l (p : Int)).f0]).length : Int) - 1) = (front.length : Int) := by
        rw [hlen, wrap_in (by omega) (by omega)]
        omega
      have hrd : rd (front ++ [segN (rd_T69 l (p : Int)).f0]) (front.length : Int) = segN (rd_T69 l (p : Int)).f0 := by
        unfold rd
        rw [Int.toNat_natCast, List.getD_eq_getElem?_getD, List.getElem?_append_right (Nat.le_refl _)]
        simp
      have hsync : impl_walSync.sync l (p : Int) = l.set p ⟨(rd_T69 l (p : Int)).f0, (rd_T69 l (p : Int)).f1, ((rd_T69 l (p : Int)).f1.size : Int)⟩ := by
        unfold impl_walSync.sync
        rw [if_pos (by omega), Int.toNat_natCast]
      have hfind : Ev (fun k => spec_l03Find.f k room l (rd_T69 l (p : Int)).f0) (p : Int) := find_from l room _ hl p e3 rfl p 0 (by omega) (fun m hm he => by
        have hc : cmpB (rd_T69 l (m : Int)).f0 (rd_T69 l (p : Int)).f0 < 0 := by
          have := rising_less l hr (p - m - 1) m (by omega)
          rw [show m + (p - m - 1) + 1 = p by omega] at this
          exact this
        rw [(cmp_zero _ _).2 he] at hc
        omega)
      have hput := put_ev room l hr h8 p e3 ⟨(rd_T69 l (p : Int)).f0, (rd_T69 l (p : Int)).f1, ((rd_T69 l (p : Int)).f1.size : Int)⟩ rfl
      have hstep : Ev (fun k => spec_l03Step.f k room l 2 0 (rd_T69 l (p : Int)).f0 (⟨#[]⟩ : ByteArray) (⟨#[]⟩ : ByteArray) ([] : List Int)) (room, impl_walSync.sync l (p : Int), 0) := by
        unfold spec_l03Step.f
        rw [hsync]
        exact ev_if_pos rfl (ev_bind hfind (ev_if_pos ⟨by omega, by omega⟩ (ev_bind hput (ev_some _))))
      have hsl2 : (impl_walSync.sync l (p : Int)).length = l.length := by rw [hsync, List.length_set]
      refine ⟨room, impl_walSync.sync l (p : Int), 0, ev_bind h1 (ev_if_pos rfl (ev_bind (a := (room, impl_walSync.sync l (p : Int))) ?_ (ev_bind (own_ev room (impl_walSync.sync l (p : Int)) (by omega)) (ev_some _)))), ev_bind h2 (ev_if_pos rfl ?_), by omega⟩
      · unfold spec_l04Sync.f
        refine ev_bind hseg (ev_if_neg (by rw [hlen]; omega) ?_)
        simp only [hw, hrd]
        exact ev_if_pos (by omega) (ev_if_pos (by rw [hlen]; omega) (ev_bind (name_back _ e4) (ev_bind hstep (ev_some _))))
      · rw [himp _ e1]
        exact ev_some _
theorem FnExactWalSync : laws_FnExactWalSync.Pure := by
  intro a l _ hg
  refine Ev.rounds (r := true) ?_
  unfold laws_FnExactWalSync.f
  obtain ⟨s, hs, hh⟩ := szDisk_ev a l hg 1048576 (by omega) (by omega)
  refine ev_bind hs ?_
  by_cases hneg : s < 0
  · exact ev_if_pos hneg (ev_some _)
  · obtain ⟨_, hl, _, hB⟩ := hh.resolve_left (by omega)
    have ht := toDisk_ev a l (by omega)
    have hml : (l.map convFile).length = l.length := List.length_map _
    obtain ⟨r, L, e, h1, h2, h3⟩ := sync_answer a (l.map convFile) (by omega) (conv_bound l 1048576 (by omega) hB)
    have he := eqDisk_ev a (l.map convFile) (by omega)
    have hq := eqDisk_ev r L (by omega)
    have hm1 := markFileS_ev (l.map convFile) (by omega)
    have hm2 := markFileS_ev L (by omega)
    have hk1 : Ev (fun k => laws_markDisk.f k a (l.map convFile) 1) (3 * ((l.map convFile).length : Int) + 1, marksF (l.map convFile).length) := by
      unfold laws_markDisk.f
      exact ev_bind hm1 (ev_some _)
    have hk2 : Ev (fun k => laws_markDisk.f k r L 1) (3 * (L.length : Int) + 1, marksF L.length) := by
      unfold laws_markDisk.f
      exact ev_bind hm2 (ev_some _)
    have hd : Ev (fun k => laws_heldDisk.f k r (marksF L.length) 1) (3 * (L.length : Int) + 1) := by
      unfold laws_heldDisk.f
      exact ev_bind (heldFileS_ev L.length (by omega)) (ev_if_neg (by omega) (ev_some _))
    have hee : (e != e) = false := by simp
    refine ev_if_neg hneg (ev_bind ht (ev_bind h1 (ev_bind ht (ev_bind h2 (ev_bind hq (ev_if_pos (by first | rfl | trivial) (ev_succ ?_)))))))
    simp only [laws_FnExactWalSync.j0, hee]
    refine ev_if_neg (by simp) (ev_bind ht (ev_bind he (ev_if_pos (by first | rfl | trivial) (ev_bind hk1 (ev_if_neg (by simp only; omega) (ev_bind hq (ev_if_pos (by first | rfl | trivial) (ev_succ ?_))))))))
    simp only [laws_FnExactWalSync.j1]
    refine ev_if_neg (by simp) (ev_bind hk2 (ev_bind hd (ev_if_neg (by omega) (ev_if_pos (by first | rfl | trivial) (ev_bind ht (ev_bind h2 (ev_bind hq (ev_if_pos (by first | rfl | trivial) (ev_succ ?_)))))))))
    simp only [laws_FnExactWalSync.j2, hee]
    exact ev_if_neg (by simp) (ev_bind hd (ev_if_neg (by omega) (ev_if_pos (by first | rfl | trivial) (ev_some _))))
end Go.Proofs.YtpdhfoegbannkaaDoor.Pure
