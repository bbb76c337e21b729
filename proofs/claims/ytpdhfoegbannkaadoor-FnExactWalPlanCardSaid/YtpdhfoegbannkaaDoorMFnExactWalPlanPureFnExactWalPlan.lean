import Derived.Test.YtpdhfoegbannkaaDoorMFnExactWalPlanQFnExactWalPlan
import Derived.Test.YtpdhfoegbannkaaDoorMFnExactWalPlanU
namespace Go.Proofs.YtpdhfoegbannkaaDoor.Pure
open Go.RowKit Go.Proofs.YtpdhfoegbannkaaDoor.PFnExactWalPlan Go.Proofs.YtpdhfoegbannkaaDoorW.PrintWords Go.Proofs.YtpdhfoegbannkaaDoorW.PrintLast Go.Proofs.YtpdhfoegbannkaaDoorW.PrintMore Go.Proofs.YtpdhfoegbannkaaDoor.U
set_option linter.unusedVariables false
set_option linter.unusedSimpArgs false
def letB (c : Int) : Bool := decide (97 ≤ c ∧ c ≤ 122 ∨ 65 ≤ c ∧ c ≤ 90 ∨ c = 95)
def digB (c : Int) : Bool := decide (48 ≤ c ∧ c ≤ 57)
theorem letter_eq (c : Int) : spec_l00Letter.f c = some (letB c) := by
 unfold spec_l00Letter.f letB
 repeat' split
 all_goals simp only [Option.some.injEq]
 all_goals first | (symm; simp only [decide_eq_true_eq]; omega) | (rw [Bool.eq_iff_iff]; simp only [beq_iff_eq, decide_eq_true_eq]; omega)
theorem digit_eq (c : Int) : spec_l00Digit.f c = some (digB c) := by
 unfold spec_l00Digit.f digB
 split
 ·simp only [Option.some.injEq]; rw [Bool.eq_iff_iff]; simp only [decide_eq_true_eq]; omega
 ·simp only [Option.some.injEq]; symm; simp only [decide_eq_false_iff_not]; omega
theorem wrap_next {i : Int} {n : Nat} (h0 : 0 ≤ i) (h : i < (n : Int)) (hn : n ≤ 1048576) : wrap64 (i + 1) = i + 1 := by
 unfold wrap64
 omega
theorem impl_step (k : Nat) (s : ByteArray) (i : Int) (b : Bool) (h0 : 0 ≤ i) (h1 : i < (s.size : Int)) (hr : impl_NameOK.l0 k s (s.size : Int) (wrap64 (i + 1)) = some b) :
  impl_NameOK.l0 (k + 1) s (s.size : Int) i = some (if letB (bt s i) || (decide (i ≠ 0) && digB (bt s i)) then b else false) := by
 simp only [impl_NameOK.l0];rw [if_pos h1, if_pos h0, if_pos h1, hr];generalize bt s i = c
 unfold letB digB
 simp only [Bool.or_eq_true, Bool.and_eq_true, decide_eq_true_eq]
 repeat' split
 all_goals first | rfl | omega
theorem spec_step (k : Nat) (s : ByteArray) (i : Int) (b : Bool) (h0 : 0 ≤ i) (h1 : i < (s.size : Int)) (hr : spec_l00Word.l0 k s (wrap64 (i + 1)) = some b) :
  spec_l00Word.l0 (k + 1) s i = some (if letB (bt s i) || digB (bt s i) then b else false) := by
 simp only [spec_l00Word.l0];rw [if_pos h1, if_pos h0, letter_eq, digit_eq, hr];simp only [Option.bind_some]
 cases letB (bt s i) <;> cases digB (bt s i) <;> rfl
theorem impl_end (k : Nat) (s : ByteArray) : impl_NameOK.l0 (k + 1) s (s.size : Int) (s.size : Int) = some (decide (1 ≤ (s.size : Int) ∧ (s.size : Int) ≤ 40)) := by
 simp only [impl_NameOK.l0];rw [if_neg (by omega)]
 unfold impl_within.f
 by_cases h1 : (s.size : Int) ≥ 1 <;> by_cases h2 : (s.size : Int) ≤ 40 <;> simp [h1, h2]
theorem both (s : ByteArray) (hn : s.size ≤ 1048576) (d : Nat) : ∀ (k : Nat) (i : Int), 1 ≤ i → i ≤ s.size → (s.size : Int) - i = d → d < k →
  ∃ b : Bool, spec_l00Word.l0 k s i = some b ∧ impl_NameOK.l0 k s (s.size : Int) i = some (b && decide (1 ≤ (s.size : Int) ∧ (s.size : Int) ≤ 40)) := by
 induction d with
 | zero =>
  intro k i h0 h1 hd hk;obtain ⟨k, rfl⟩ : ∃ m, k = m + 1 := ⟨k - 1, by omega⟩
  obtain rfl : i = (s.size : Int) := by omega
  exact ⟨true, by simp only [spec_l00Word.l0]; rw [if_neg (by omega)], by rw [impl_end, Bool.true_and]⟩
 | succ d ih =>
  intro k i h0 h1 hd hk;obtain ⟨k, rfl⟩ : ∃ m, k = m + 1 := ⟨k - 1, by omega⟩
  have hi : i < (s.size : Int) := by omega
  have hw := wrap_next (by omega) hi hn;obtain ⟨b, hs, hm⟩ := ih k (i + 1) (by omega) (by omega) (by omega) (by omega);rw [← hw] at hs hm
  have hne : decide (i ≠ 0) = true := by simp; omega
  refine ⟨_, spec_step k s i b (by omega) hi hs, ?_⟩;rw [impl_step k s i _ (by omega) hi hm, hne, Bool.true_and]
  cases letB (bt s i) || digB (bt s i) <;> rfl
theorem name_same (s : ByteArray) (hn : s.size ≤ 1048576) : ∃ b, Ev (fun k => spec_NameOK.f k s) b ∧ Ev (fun k => impl_NameOK.f k s) b := by
 suffices h : ∃ k b, spec_NameOK.f k s = some b ∧ impl_NameOK.f k s = some b by
  obtain ⟨k, b, h1, h2⟩ := h;exact ⟨b, ev_mono (g := fun k => spec_NameOK.f k s) (fun k => spec_NameOK.mono _ k) h1, ev_mono (g := fun k => impl_NameOK.f k s) (fun k => impl_NameOK.mono _ k) h2⟩
 unfold spec_NameOK.f spec_l00Word.f impl_NameOK.f
 by_cases h0 : (s.size : Int) < 1
 ·have hz : (s.size : Int) = 0 := by omega
  refine ⟨1, false, by rw [if_pos h0]; rfl, ?_⟩;have := impl_end 0 s;rw [hz] at this ⊢;rw [this]
  rfl
 ·obtain ⟨b, hs, hm⟩ := both s hn (s.size - 1) s.size 1 (by omega) (by omega) (by omega) (by omega)
  have hw : wrap64 (0 + 1) = 1 := by unfold wrap64; omega
  have hstep := impl_step s.size s 0 _ (by omega) (by omega) (by rw [hw]; exact hm);refine ⟨s.size + 1, _, ?_, hstep⟩;rw [if_neg h0]
  have hne : decide ((0 : Int) ≠ 0) = false := by simp
  rw [hne, Bool.false_and, Bool.or_false]
  by_cases h40 : (s.size : Int) > 40
  ·rw [if_pos h40]
   have : decide (1 ≤ (s.size : Int) ∧ (s.size : Int) ≤ 40) = false := by simp; omega
   rw [this, Bool.and_false, ite_self]
   rfl
  ·rw [if_neg h40, if_pos (by omega), letter_eq];simp only [Option.bind_some]
   have : decide (1 ≤ (s.size : Int) ∧ (s.size : Int) ≤ 40) = true := by simp; omega
   rw [this, Bool.and_true];simp only [spec_l00Word.j0, hs]
   cases letB (bt s 0) <;> simp
def sizes (l : List S69) : Int := (l.map fun x => (x.f1.size : Int)).sum
theorem sizes_bound (l : List S69) (hB : ∀ x ∈ l, x.f0.size ≤ 1048576 ∧ x.f1.size ≤ 1048576) : 0 ≤ sizes l ∧ sizes l ≤ 1048576 * (l.length : Int) := by
 unfold sizes
 induction l with
 | nil => simp
 | cons x r ih =>
  have h1 := ih (fun y hy => hB y (List.mem_cons_of_mem _ hy));have h2 := hB x List.mem_cons_self;simp only [List.map_cons, List.sum_cons, List.length_cons]
  omega
theorem sizes_mem (l : List S69) : ∀ x ∈ l, (x.f1.size : Int) ≤ sizes l := by
 unfold sizes
 induction l with
 | nil => intro x hx; simp at hx
 | cons y r ih =>
  have h0 : 0 ≤ (r.map fun x => (x.f1.size : Int)).sum := by
   clear ih
   induction r with
   | nil => simp
   | cons z q ih => simp only [List.map_cons, List.sum_cons]; omega
  intro x hx;simp only [List.map_cons, List.sum_cons]
  rcases List.mem_cons.1 hx with rfl | hx
  ·omega
  ·have := ih x hx; omega
theorem rd_file (l : List S69) (i : Nat) (h : i < l.length) : rd_T69 l (i : Int) = l[i] := by
 unfold rd_T69
 rw [Int.toNat_natCast, List.getD_eq_getElem?_getD, List.getElem?_eq_getElem h, Option.getD_some]
theorem used_both (l : List S69) (room : Int) (hl : l.length ≤ 1048576) (hB : ∀ x ∈ l, x.f0.size ≤ 1048576 ∧ x.f1.size ≤ 1048576) (d : Nat) : ∀ (i : Nat) (v : Int), i + d = l.length → 0 ≤ v → v + sizes (l.drop i) ≤ 1099511627776 →
  Ev (fun k => spec_l03Used.l0 k v (i : Int) room l) (v + sizes (l.drop i)) ∧ Ev (fun k => impl_Disk_used.l0 k v l (l.length : Int) (i : Int)) (v + sizes (l.drop i)) := by
 induction d with
 | zero =>
  intro i v hi h0 h1
  have hd : sizes (l.drop i) = 0 := by rw [List.drop_eq_nil_of_le (by omega)]; rfl
  rw [hd, Int.add_zero];exact ⟨ev_succ (ev_of_eq fun k => by simp only [spec_l03Used.l0]; rw [if_neg (by omega)]), ev_succ (ev_of_eq fun k => by simp only [impl_Disk_used.l0]; rw [if_neg (by omega)])⟩
 | succ d ih =>
  intro i v hi h0 h1
  have hlt : i < l.length := by omega
  have hdrop : l.drop i = l[i] :: l.drop (i + 1) := List.drop_eq_getElem_cons hlt
  have hs : sizes (l.drop i) = (l[i].f1.size : Int) + sizes (l.drop (i + 1)) := by rw [hdrop]; rfl
  have hnn := (sizes_bound (l.drop (i + 1)) (fun x hx => hB x (List.mem_of_mem_drop hx))).1
  have hw : wrap64 ((i : Int) + 1) = ((i + 1 : Nat) : Int) := by rw [wrap_in (by omega) (by omega)]; omega
  have hv : wrap64 (v + (l[i].f1.size : Int)) = v + (l[i].f1.size : Int) := wrap_in (by omega) (by omega);obtain ⟨e1, e2⟩ := ih (i + 1) (v + (l[i].f1.size : Int)) (by omega) (by omega) (by omega);rw [hs, ← Int.add_assoc];refine ⟨ev_succ ?_, ev_succ ?_⟩
  ·simp only [spec_l03Used.l0, rd_file l i hlt, hv, hw];exact ev_if_pos (by omega) (ev_if_pos (by omega) e1)
  ·simp only [impl_Disk_used.l0, rd_file l i hlt, hv, hw];exact ev_if_pos (by omega) (ev_if_pos (by omega) (ev_if_pos (by omega) e2))
theorem used_same (l : List S69) (room : Int) (hl : l.length ≤ 1048576) (hB : ∀ x ∈ l, x.f0.size ≤ 1048576 ∧ x.f1.size ≤ 1048576) :
  Ev (fun k => spec_l03Used.f k room l) (sizes l) ∧ Ev (fun k => impl_Disk_used.f k room l) (sizes l) := by
 have hb := sizes_bound l hB;have := used_both l room hl hB l.length 0 0 (by omega) (by omega) (by rw [List.drop_zero]; omega);rw [List.drop_zero, Int.zero_add] at this;exact this
theorem in_eq (a b c : Int) : spec_l01In.f a b c = some (decide (b ≤ a ∧ a ≤ c)) := by
 unfold spec_l01In.f
 split <;> simp only [Option.some.injEq] <;> rw [Bool.eq_iff_iff] <;> simp <;> omega
theorem within_eq (a b c : Int) : impl_within.f a b c = some (decide (b ≤ a ∧ a ≤ c)) := by
 unfold impl_within.f
 split <;> simp only [Option.some.injEq] <;> rw [Bool.eq_iff_iff] <;> simp <;> omega
theorem j2b (l : List S69) (i n room : Int) : Ev (fun k => impl_DiskOK.j2 k l n i true room l) false := by
 refine ev_succ ?_;simp only [impl_DiskOK.j2];exact ev_if_pos trivial (ev_some _)
theorem j2n {l : List S69} {i j n room : Int} {b : Bool} (hw : wrap64 (i + 1) = j) (h : Ev (fun k => impl_DiskOK.l0 k l n j room l) b) : Ev (fun k => impl_DiskOK.j2 k l n i false room l) b := by
 refine ev_succ ?_;simp only [impl_DiskOK.j2, hw];exact ev_if_neg (by simp) h
theorem s2b (l : List S69) (i room : Int) : Ev (fun k => spec_DiskOK.j2 k i true room l) false := by
 refine ev_succ ?_;simp only [spec_DiskOK.j2];exact ev_if_pos trivial (ev_some _)
theorem s2n {l : List S69} {i j room : Int} {b : Bool} (hw : wrap64 (i + 1) = j) (h : Ev (fun k => spec_DiskOK.l0 k j room l) b) : Ev (fun k => spec_DiskOK.j2 k i false room l) b := by
 refine ev_succ ?_;simp only [spec_DiskOK.j2, hw];exact ev_if_neg (by simp) h
theorem files_both (l : List S69) (room : Int) (hl : l.length ≤ 1048576) (hB : ∀ x ∈ l, x.f0.size ≤ 1048576 ∧ x.f1.size ≤ 1048576) (d : Nat) : ∀ i : Nat, i + d = l.length →
  ∃ b c : Bool, Ev (fun k => impl_DiskOK.l0 k l (l.length : Int) (i : Int) room l) b ∧ Ev (fun k => spec_DiskOK.l0 k (i : Int) room l) c ∧ (c = true ↔ b = true ∧ (∀ x ∈ l.drop i, (x.f1.size : Int) ≤ 3000) ∧ sizes l ≤ room) := by
 induction d with
 | zero =>
  intro i hi;refine ⟨true, decide (sizes l ≤ room), ev_succ (ev_of_eq fun k => ?_), ev_succ ?_, ?_⟩
  ·simp only [impl_DiskOK.l0]; rw [if_neg (by omega)]
  ·simp only [spec_DiskOK.l0];exact ev_if_neg (by omega) (ev_bind (used_same l room hl hB).1 (ev_some _))
  ·rw [List.drop_eq_nil_of_le (by omega)]; simp
 | succ d ih =>
  intro i hi
  have hlt : i < l.length := by omega
  have hi1 : (i : Int) < (l.length : Int) := by omega
  have hi0 : 0 ≤ (i : Int) := by omega
  have hdrop : l.drop i = l[i] :: l.drop (i + 1) := List.drop_eq_getElem_cons hlt
  have hw : wrap64 ((i : Int) + 1) = ((i + 1 : Nat) : Int) := by rw [wrap_in (by omega) (by omega)]; omega
  have hp : wrap64 ((i : Int) - 1) = (i : Int) - 1 := wrap_in (by omega) (by omega);have hsz := hB l[i] (List.getElem_mem hlt);obtain ⟨b, c, hm, hs, hbc⟩ := ih (i + 1) (by omega);obtain ⟨r, n1, n2⟩ := name_same l[i].f0 hsz.1
  cases r with
  | false =>
   refine ⟨false, false, ev_succ ?_, ev_succ ?_, by simp⟩
   ·simp only [impl_DiskOK.l0, rd_file l i hlt];exact ev_if_pos hi1 (ev_if_pos hi0 (ev_if_pos hi1 (ev_bind n2 (ev_if_neg (by simp) (j2b _ _ _ _)))))
   ·simp only [spec_DiskOK.l0, rd_file l i hlt];exact ev_if_pos hi1 (ev_if_pos hi0 (ev_bind n1 (ev_if_neg (by simp) (s2b _ _ _))))
  | true =>
   by_cases c1 : 0 ≤ l[i].f2 ∧ l[i].f2 ≤ (l[i].f1.size : Int)
   ·have k1 : decide (0 ≤ l[i].f2 ∧ l[i].f2 ≤ (l[i].f1.size : Int)) = true := decide_eq_true c1
    by_cases c2 : (i : Int) > 0
    ·by_cases c3 : Op.bytesLess ((rd_T69 l ((i : Int) - 1)).f0.toList) (l[i].f0.toList) = true
     ·by_cases c4 : (l[i].f1.size : Int) > 3000
      ·refine ⟨b, false, ev_succ ?_, ev_succ ?_, ?_⟩
       ·simp only [impl_DiskOK.l0, rd_file l i hlt, hp, within_eq, k1, Option.bind_some];exact ev_if_pos hi1 (ev_if_pos hi0 (ev_if_pos hi1 (ev_bind n2 (ev_if_pos rfl (ev_if_pos c2 (ev_if_pos (by omega) (ev_if_pos (by omega) (ev_if_pos c3 (j2n hw hm)))))))))
       ·simp only [spec_DiskOK.l0, rd_file l i hlt, hp, in_eq, k1, Option.bind_some];exact ev_if_pos hi1 (ev_if_pos hi0 (ev_bind n1 (ev_if_pos rfl (ev_if_pos trivial (ev_if_pos c4 (s2b _ _ _))))))
       ·rw [hdrop];simp only [Bool.false_eq_true, List.mem_cons, forall_eq_or_imp, false_iff]
        omega
      ·refine ⟨b, c, ev_succ ?_, ev_succ ?_, ?_⟩
       ·simp only [impl_DiskOK.l0, rd_file l i hlt, hp, within_eq, k1, Option.bind_some];exact ev_if_pos hi1 (ev_if_pos hi0 (ev_if_pos hi1 (ev_bind n2 (ev_if_pos rfl (ev_if_pos c2 (ev_if_pos (by omega) (ev_if_pos (by omega) (ev_if_pos c3 (j2n hw hm)))))))))
       ·simp only [spec_DiskOK.l0, rd_file l i hlt, hp, in_eq, k1, Option.bind_some];exact ev_if_pos hi1 (ev_if_pos hi0 (ev_bind n1 (ev_if_pos rfl (ev_if_pos trivial (ev_if_neg c4 (ev_if_pos c2 (ev_if_pos (by omega) (ev_if_pos (by omega) (by rw [c3]; exact s2n hw hs)))))))))
       ·rw [hdrop, hbc];simp only [List.mem_cons, forall_eq_or_imp]
        constructor
        ·rintro ⟨x, y, z⟩; exact ⟨x, ⟨by omega, y⟩, z⟩
        ·rintro ⟨x, ⟨_, y⟩, z⟩; exact ⟨x, y, z⟩
     ·have c4 : True := trivial;refine ⟨false, false, ev_succ ?_, ev_succ ?_, by simp⟩
      ·simp only [impl_DiskOK.l0, rd_file l i hlt, hp, within_eq, k1, Option.bind_some];exact ev_if_pos hi1 (ev_if_pos hi0 (ev_if_pos hi1 (ev_bind n2 (ev_if_pos rfl (ev_if_pos c2 (ev_if_pos (by omega) (ev_if_pos (by omega) (ev_if_neg c3 (j2b _ _ _ _)))))))))
      ·simp only [spec_DiskOK.l0, rd_file l i hlt, hp, in_eq, k1, Option.bind_some];refine ev_if_pos hi1 (ev_if_pos hi0 (ev_bind n1 (ev_if_pos rfl (ev_if_pos trivial ?_))))
       by_cases c4 : (l[i].f1.size : Int) > 3000
       ·exact ev_if_pos c4 (s2b _ _ _)
       ·exact ev_if_neg c4 (ev_if_pos c2 (ev_if_pos (by omega) (ev_if_pos (by omega) (by rw [Bool.eq_false_iff.mpr c3]; exact s2b _ _ _))))
    ·by_cases c4 : (l[i].f1.size : Int) > 3000
     ·refine ⟨b, false, ev_succ ?_, ev_succ ?_, ?_⟩
      ·simp only [impl_DiskOK.l0, rd_file l i hlt, hp, within_eq, k1, Option.bind_some];exact ev_if_pos hi1 (ev_if_pos hi0 (ev_if_pos hi1 (ev_bind n2 (ev_if_pos rfl (ev_if_neg c2 (j2n hw hm))))))
      ·simp only [spec_DiskOK.l0, rd_file l i hlt, hp, in_eq, k1, Option.bind_some];exact ev_if_pos hi1 (ev_if_pos hi0 (ev_bind n1 (ev_if_pos rfl (ev_if_pos trivial (ev_if_pos c4 (s2b _ _ _))))))
      ·rw [hdrop];simp only [Bool.false_eq_true, List.mem_cons, forall_eq_or_imp, false_iff]
       omega
     ·refine ⟨b, c, ev_succ ?_, ev_succ ?_, ?_⟩
      ·simp only [impl_DiskOK.l0, rd_file l i hlt, hp, within_eq, k1, Option.bind_some];exact ev_if_pos hi1 (ev_if_pos hi0 (ev_if_pos hi1 (ev_bind n2 (ev_if_pos rfl (ev_if_neg c2 (j2n hw hm))))))
      ·simp only [spec_DiskOK.l0, rd_file l i hlt, hp, in_eq, k1, Option.bind_some];exact ev_if_pos hi1 (ev_if_pos hi0 (ev_bind n1 (ev_if_pos rfl (ev_if_pos trivial (ev_if_neg c4 (ev_if_neg c2 (s2n hw hs)))))))
      ·rw [hdrop, hbc];simp only [List.mem_cons, forall_eq_or_imp]
       constructor
       ·rintro ⟨x, y, z⟩; exact ⟨x, ⟨by omega, y⟩, z⟩
       ·rintro ⟨x, ⟨_, y⟩, z⟩; exact ⟨x, y, z⟩
   ·have k1 : decide (0 ≤ l[i].f2 ∧ l[i].f2 ≤ (l[i].f1.size : Int)) = false := decide_eq_false c1;refine ⟨false, false, ev_succ ?_, ev_succ ?_, by simp⟩
    ·simp only [impl_DiskOK.l0, rd_file l i hlt, hp, within_eq, k1, Option.bind_some];refine ev_if_pos hi1 (ev_if_pos hi0 (ev_if_pos hi1 (ev_bind n2 (ev_if_pos rfl ?_))))
     by_cases c2 : (i : Int) > 0
     ·refine ev_if_pos c2 (ev_if_pos (by omega) (ev_if_pos (by omega) ?_))
      by_cases c3 : Op.bytesLess ((rd_T69 l ((i : Int) - 1)).f0.toList) (l[i].f0.toList) = true
      ·exact ev_if_pos c3 (j2b _ _ _ _)
      ·exact ev_if_neg c3 (j2b _ _ _ _)
     ·exact ev_if_neg c2 (j2b _ _ _ _)
    ·simp only [spec_DiskOK.l0, rd_file l i hlt, hp, in_eq, k1, Option.bind_some];exact ev_if_pos hi1 (ev_if_pos hi0 (ev_bind n1 (ev_if_pos rfl (ev_if_neg (by simp) (s2b _ _ _)))))
theorem disk_same (room : Int) (l : List S69) (hl : l.length ≤ 1048576) (hB : ∀ x ∈ l, x.f0.size ≤ 1048576 ∧ x.f1.size ≤ 1048576) : ∃ b, Ev (fun k => spec_DiskOK.f k room l) b ∧ Ev (fun k => impl_DiskOK.f k room l) b := by
 unfold spec_DiskOK.f impl_DiskOK.f
 rw [in_eq, within_eq];simp only [Option.bind_some]
 have sbad : Ev (fun k => spec_DiskOK.j0 k true room l) false := by
  refine ev_succ ?_;simp only [spec_DiskOK.j0];exact ev_if_pos trivial (ev_some _)
 have ibad : Ev (fun k => impl_DiskOK.j0 k true room l) false := by
  refine ev_succ ?_;simp only [impl_DiskOK.j0];exact ev_if_pos trivial (ev_some _)
 by_cases c1 : 0 ≤ room ∧ room ≤ 3000
 ·rw [decide_eq_true c1]
  by_cases c2 : (l.length : Int) > 8
  ·rw [decide_eq_true c2];exact ⟨false, ev_if_pos rfl sbad, ev_if_pos rfl (ev_if_pos c2 ibad)⟩
  ·rw [decide_eq_false c2];obtain ⟨b, c, hm, hs, hbc⟩ := files_both l room hl hB l.length 0 (by omega)
   have hs' : Ev (fun k => spec_DiskOK.j0 k false room l) c := by
    refine ev_succ ?_;simp only [spec_DiskOK.j0];exact ev_if_neg (by simp) hs
   by_cases c3 : sizes l > room
   ·have hc : c = false := by
     rw [Bool.eq_false_iff];intro h;have := (hbc.1 h).2.2
     omega
    subst hc;refine ⟨false, ev_if_pos rfl hs', ev_if_pos rfl (ev_if_neg c2 (ev_bind (used_same l room hl hB).2 ?_))⟩;rw [decide_eq_true c3];exact ibad
   ·have hc : c = b := by
     rw [Bool.eq_iff_iff, hbc]
     have hall : ∀ x ∈ l.drop 0, (x.f1.size : Int) ≤ 3000 := fun x hx => by
      have := sizes_mem l x (by simpa using hx)
      omega
     constructor
     ·exact fun h => h.1
     ·exact fun h => ⟨h, hall, by omega⟩
    subst hc;refine ⟨c, ev_if_pos rfl hs', ev_if_pos rfl (ev_if_neg c2 (ev_bind (used_same l room hl hB).2 ?_))⟩;rw [decide_eq_false c3];refine ev_succ ?_;simp only [impl_DiskOK.j0];exact ev_if_neg (by simp) hm
 ·rw [decide_eq_false c1];exact ⟨false, ev_if_neg (by simp) sbad, ev_if_neg (by simp) ibad⟩
def convFile (x : S67) : S69 := ⟨x.f0, x.f1, x.f2⟩
theorem toFileS_ev (l : List S67) (hl : l.length ≤ 1048576) : Ev (fun k => laws_toFileS.f k l) (l.map convFile) := by
 have hml : (l.map convFile).length = l.length := List.length_map _
 have key := ev_loop (fun k (s : List S69 × Int) => laws_toFileS.l0 k l s.1 s.2) (fun s => 0 ≤ s.2 ∧ s.2 ≤ l.length ∧ s.1.length = l.length ∧ ∀ j : Nat, j < s.2.toNat → s.1[j]? = (l.map convFile)[j]?) (fun s => l.length - s.2.toNat) (fun _ => l.map convFile) (by
  rintro ⟨x, i⟩ ⟨h0, h1, h2, h3⟩
  simp only at h0 h1 h2 h3
  by_cases hi : i < (l.length : Int)
  ·right
   obtain ⟨hs1, hs2⟩ := copy_step (l.map convFile) x i.toNat (convFile z67) (by rw [hml]; exact h2) (by rw [hml]; omega) h3
   have hg : (l.map convFile).getD i.toNat (convFile z67) = convFile (rd_T67 l i) := by
    unfold rd_T67
    rw [List.getD_eq_getElem?_getD, List.getD_eq_getElem?_getD, List.getElem?_map]
    cases l[i.toNat]? <;> rfl
   rw [hg] at hs1 hs2;rw [hml] at hs1;refine ⟨(x.set i.toNat (convFile (rd_T67 l i)), i + 1), ⟨by simp only; omega, by simp only; omega, hs1, fun j hj => hs2 j (by simp only at hj; omega)⟩, by simp only; omega, rfl, 0, fun j _ => ?_⟩
   show laws_toFileS.l0 (j + 1) l x i = _
   simp only [laws_toFileS.l0, laws_toFile.f, Option.bind_some];rw [if_pos (by omega), if_pos h0, if_pos (by omega), wrap_in (x := i + 1) (by omega) (by omega)]
   rfl
  ·left
   refine ⟨0, fun j _ => ?_⟩
   show laws_toFileS.l0 (j + 1) l x i = _
   simp only [laws_toFileS.l0]
   rw [if_neg (by omega), copy_end (l.map convFile) x (by rw [hml]; exact h2) (fun j hj => h3 j (by rw [hml] at hj; omega))])
 have := key (List.replicate l.length z69, 0) ⟨by simp, by simp, by simp, fun j hj => absurd hj (by simp)⟩;refine ev_congr (fun k => ?_) this
 unfold laws_toFileS.f
 rw [if_pos (by omega), if_pos (by omega), Int.toNat_natCast]
def BFile (x : S67) (n : Int) : Prop := (x.f0.size : Int) ≤ n ∧ (x.f1.size : Int) ≤ n
theorem szFile_some (x : S67) (hg : g67 x) (n : Int) (h0 : 0 ≤ n) (h1 : n ≤ 1048576) : ∃ s, laws_szFile.f x.f0 x.f1 x.f2 n = some s ∧ s ≤ n ∧ (0 ≤ s ∨ s = -1) ∧ (0 ≤ s → BFile x n) := by
 unfold laws_szFile.f BFile
 have hb0 : x.f0.size ≤ maxLen := hg.1;have hb1 : x.f1.size ≤ maxLen := hg.2.1
 unfold maxLen at *
 have hw0 : wrap64 (n - (x.f0.size : Int)) = n - (x.f0.size : Int) := wrap_in (by omega) (by omega)
 by_cases c0 : n - (x.f0.size : Int) < 0
 ·refine ⟨-1, ?_, by omega, .inr rfl, fun h => absurd h (by omega)⟩;simp only [hw0];rw [if_pos c0]
 ·skip
  have hw1 : wrap64 (n - (x.f0.size : Int) - (x.f1.size : Int)) = n - (x.f0.size : Int) - (x.f1.size : Int) := wrap_in (by omega) (by omega)
  by_cases c1 : n - (x.f0.size : Int) - (x.f1.size : Int) < 0
  ·refine ⟨-1, ?_, by omega, .inr rfl, fun h => absurd h (by omega)⟩;simp only [hw0, hw1];rw [if_neg c0];rw [if_pos c1]
  ·skip
   refine ⟨n - (x.f0.size : Int) - (x.f1.size : Int), ?_, by omega, .inl (by omega), fun _ => ⟨by omega, by omega⟩⟩;simp only [hw0, hw1];rw [if_neg c0];rw [if_neg c1]
theorem szFileS_ev (l : List S67) (hg : Open.GL g67 l) (n : Int) (h0 : 0 ≤ n) (h1 : n ≤ 1048576) : ∃ s, Ev (fun k => laws_szFileS.f k l n) s ∧ (s = -1 ∨ 0 ≤ s ∧ (l.length : Int) ≤ n ∧ s ≤ n ∧ ∀ x ∈ l, BFile x n) := by
 have hm := hg.1
 unfold maxLen at hm
 have hw : wrap64 (n - (l.length : Int)) = n - (l.length : Int) := wrap_in (by omega) (by omega)
 by_cases hneg : n - (l.length : Int) < 0
 ·exact ⟨-1, ev_of_eq fun k => by unfold laws_szFileS.f; rw [hw, if_pos hneg], .inl rfl⟩
 ·have key : ∀ (d i : Nat) (v : Int), i + d = l.length → 0 ≤ v → v ≤ n → ∃ s, Ev (fun k => laws_szFileS.l0 k l v (i : Int)) s ∧ (s = -1 ∨ 0 ≤ s ∧ s ≤ n ∧ ∀ x ∈ l.drop i, BFile x n) := by
   intro d
   induction d with
   | zero =>
    intro i v hi hv0 hv1;exact ⟨v, ev_succ (ev_of_eq fun k => by simp only [laws_szFileS.l0]; rw [if_neg (by omega)]), .inr ⟨hv0, hv1, fun x hx => by rw [List.drop_eq_nil_of_le (by omega)] at hx; simp at hx⟩⟩
   | succ d ih =>
    intro i v hi hv0 hv1
    have hmem : rd_T67 l (i : Int) ∈ l := by
     unfold rd_T67
     rw [Int.toNat_natCast, List.getD_eq_getElem?_getD, List.getElem?_eq_getElem (by omega), Option.getD_some];exact List.getElem_mem _
    obtain ⟨s, hs, hle, hor, hB⟩ := szFile_some (rd_T67 l (i : Int)) (hg.2 _ hmem) v hv0 (by omega)
    by_cases hs0 : s < 0
    ·refine ⟨-1, ev_succ (ev_of_eq fun k => ?_), .inl rfl⟩;simp only [laws_szFileS.l0, hs, Option.bind_some];rw [if_pos (by omega), if_pos (by omega), if_pos hs0]
    ·obtain ⟨r, hr, hrn⟩ := ih (i + 1) s (by omega) (by omega) (by omega);refine ⟨r, ev_succ (ev_congr (fun k => ?_) hr), ?_⟩
     ·simp only [laws_szFileS.l0, hs, Option.bind_some];rw [if_pos (by omega), if_pos (by omega), if_neg hs0, wrap_in (x := (i : Int) + 1) (by omega) (by omega)]
      rfl
     ·rcases hrn with h | ⟨ha, hb, hall⟩
      ·exact .inl h
      ·refine .inr ⟨ha, hb, fun x hx => ?_⟩;rw [List.drop_eq_getElem_cons (by omega)] at hx
       rcases List.mem_cons.1 hx with rfl | hx
       ·have hq := hB (by omega)
        unfold rd_T67 at hq
        rw [Int.toNat_natCast, List.getD_eq_getElem?_getD, List.getElem?_eq_getElem (by omega), Option.getD_some] at hq
        unfold BFile at hq ⊢
        omega
       ·exact hall x hx
  obtain ⟨s, hs, hsn⟩ := key l.length 0 (n - (l.length : Int)) (by omega) (by omega) (by omega);refine ⟨s, ev_congr (fun k => ?_) hs, ?_⟩
  ·unfold laws_szFileS.f
   rw [hw, if_neg hneg]
   rfl
  ·rcases hsn with h | ⟨ha, hb, hall⟩
   ·exact .inl h
   ·exact .inr ⟨ha, by omega, hb, fun x hx => hall x (by simpa using hx)⟩
theorem szDisk_ev (a : Int) (l : List S67) (hg : Open.GL g67 l) (n : Int) (h0 : 0 ≤ n) (h1 : n ≤ 1048576) : ∃ s, Ev (fun k => laws_szDisk.f k a l n) s ∧ (s = -1 ∨ 0 ≤ s ∧ (l.length : Int) ≤ n ∧ s ≤ n ∧ ∀ x ∈ l, BFile x n) := by
 obtain ⟨s, hs, hh⟩ := szFileS_ev l hg n h0 h1
 unfold laws_szDisk.f
 by_cases hneg : s < 0
 ·exact ⟨-1, ev_bind hs (ev_if_pos hneg (ev_some _)), .inl rfl⟩
 ·exact ⟨s, ev_bind hs (ev_if_neg hneg (ev_some _)), hh⟩
theorem toDisk_ev (a : Int) (l : List S67) (hl : l.length ≤ 1048576) : Ev (fun k => laws_toDisk.f k a l) (a, l.map convFile) := by
 unfold laws_toDisk.f
 exact ev_bind (toFileS_ev l hl) (ev_some _)
theorem conv_bound (l : List S67) (n : Int) (h1 : n ≤ 1048576) (h : ∀ x ∈ l, BFile x n) : ∀ y ∈ l.map convFile, y.f0.size ≤ 1048576 ∧ y.f1.size ≤ 1048576 := by
 intro y hy;obtain ⟨x, hx, rfl⟩ := List.mem_map.1 hy;have := h x hx
 unfold BFile at this
 show x.f0.size ≤ 1048576 ∧ x.f1.size ≤ 1048576
 omega
theorem cb_zero : ∀ x y : List UInt8, Lib.compareBytes x y = 0 ↔ x = y
 | [], [] => by simp [Lib.compareBytes]
 | [], _ :: _ => by simp [Lib.compareBytes]
 | _ :: _, [] => by simp [Lib.compareBytes]
 | a :: x, b :: y => by
  simp only [Lib.compareBytes]
  by_cases h1 : a < b
  ·rw [if_pos h1]
   have : a ≠ b := fun h => by subst h; exact absurd h1 (UInt8.lt_irrefl _)
   simp [this]
  ·rw [if_neg h1]
   by_cases h2 : b < a
   ·rw [if_pos h2]
    have : a ≠ b := fun h => by subst h; exact absurd h2 (UInt8.lt_irrefl _)
    simp [this]
   ·rw [if_neg h2];have : a = b := UInt8.le_antisymm (UInt8.not_lt.1 h2) (UInt8.not_lt.1 h1);rw [cb_zero x y]
    simp [this]
theorem bl_less : ∀ x y : List UInt8, Op.bytesLess x y = true ↔ Lib.compareBytes x y < 0
 | [], [] => by simp [Lib.compareBytes, Op.bytesLess]
 | [], _ :: _ => by simp [Lib.compareBytes, Op.bytesLess]
 | _ :: _, [] => by simp [Lib.compareBytes, Op.bytesLess]
 | a :: x, b :: y => by
  simp only [Lib.compareBytes, Op.bytesLess]
  by_cases h1 : a < b
  ·simp [h1]
  ·rw [if_neg h1]
   by_cases h2 : b < a
   ·rw [if_pos h2]
    have : a ≠ b := fun h => by subst h; exact absurd h2 (UInt8.lt_irrefl _)
    simp [h1, this]
   ·rw [if_neg h2];have : a = b := UInt8.le_antisymm (UInt8.not_lt.1 h2) (UInt8.not_lt.1 h1);have := bl_less x y
    simp [h1, ‹a = b›, this]
theorem cb_trans : ∀ x y z : List UInt8, Lib.compareBytes x y < 0 → Lib.compareBytes y z < 0 → Lib.compareBytes x z < 0
 | [], y, [], h1, h2 => by cases y <;> simp [Lib.compareBytes] at h1 h2
 | [], _, _ :: _, _, _ => by simp [Lib.compareBytes]
 | _ :: _, [], _, h1, _ => by simp [Lib.compareBytes] at h1
 | _ :: _, _ :: _, [], _, h2 => by simp [Lib.compareBytes] at h2
 | a :: x, b :: y, c :: z, h1, h2 => by
  simp only [Lib.compareBytes] at h1 h2 ⊢
  by_cases p1 : a < b
  ·by_cases p2 : b < c
   ·rw [if_pos (UInt8.lt_trans p1 p2)]; decide
   ·rw [if_neg p2] at h2
    by_cases p3 : c < b
    ·rw [if_pos p3] at h2; exact absurd h2 (by decide)
    ·have e : b = c := UInt8.le_antisymm (UInt8.not_lt.1 p3) (UInt8.not_lt.1 p2);subst e;rw [if_pos p1]; decide
  ·rw [if_neg p1] at h1
   by_cases p2 : b < a
   ·rw [if_pos p2] at h1; exact absurd h1 (by decide)
   ·rw [if_neg p2] at h1;have e : a = b := UInt8.le_antisymm (UInt8.not_lt.1 p2) (UInt8.not_lt.1 p1);subst e
    by_cases p3 : a < c
    ·rw [if_pos p3]; decide
    ·rw [if_neg p3] at h2 ⊢
     by_cases p4 : c < a
     ·rw [if_pos p4] at h2; exact absurd h2 (by decide)
     ·rw [if_neg p4] at h2 ⊢;exact cb_trans x y z h1 h2
theorem cmp_zero (a b : ByteArray) : impl_Disk_fileAt.cmp a b = 0 ↔ a = b := by
 unfold impl_Disk_fileAt.cmp
 rw [cb_zero]
 constructor
 ·intro h; exact ByteArray.ext (Array.toList_inj.1 h)
 ·intro h; rw [h]
theorem cmp_less (a b : ByteArray) : Op.bytesLess a.toList b.toList = true ↔ impl_Disk_fileAt.cmp a b < 0 := by
 unfold impl_Disk_fileAt.cmp
 rw [ByteArray.toList_eq, ByteArray.toList_eq, bl_less]
theorem cmp_trans (a b c : ByteArray) (h1 : impl_Disk_fileAt.cmp a b < 0) (h2 : impl_Disk_fileAt.cmp b c < 0) : impl_Disk_fileAt.cmp a c < 0 := cb_trans _ _ _ h1 h2
def Rising (l : List S69) : Prop := ∀ j : Nat, 0 < j → j < l.length → impl_Disk_fileAt.cmp (rd_T69 l ((j - 1 : Nat) : Int)).f0 (rd_T69 l (j : Int)).f0 < 0
theorem rising_from (l : List S69) (room : Int) (hl : l.length ≤ 1048576) (k : Nat) : ∀ i : Nat, impl_DiskOK.l0 k l (l.length : Int) (i : Int) room l = some true → ∀ j : Nat, i ≤ j → 0 < j → j < l.length → impl_Disk_fileAt.cmp (rd_T69 l ((j - 1 : Nat) : Int)).f0 (rd_T69 l (j : Int)).f0 < 0 := by
 induction k using Nat.strongRecOn with
 | _ k ih =>
  intro i h j hij h0 hj
  cases k with
  | zero => simp [impl_DiskOK.l0] at h
  | succ k =>
  have step : ∀ v : Bool, impl_DiskOK.j2 k l (l.length : Int) (i : Int) v room l = some true → v = false ∧ ∃ k2, k2 < k + 1 ∧ impl_DiskOK.l0 k2 l (l.length : Int) (wrap64 ((i : Int) + 1)) room l = some true := by
   intro v hv
   cases k with
   | zero => simp [impl_DiskOK.j2] at hv
   | succ k =>
    simp only [impl_DiskOK.j2] at hv
    cases v with
    | true => rw [if_pos (by first | rfl | trivial)] at hv; simp at hv
    | false => rw [if_neg (by simp)] at hv; exact ⟨rfl, k, by omega, hv⟩
  simp only [impl_DiskOK.l0] at h
  have hw : wrap64 ((i : Int) + 1) = ((i + 1 : Nat) : Int) := by rw [wrap_in (by omega) (by omega)]; omega
  rw [if_pos (by omega), if_pos (by omega), if_pos (by omega)] at h;replace h := Option.bind_eq_some_iff.mp h;obtain ⟨t, ht, h⟩ := h
  by_cases c1 : t = true
  ·rw [if_pos c1] at h
   by_cases c2 : (i : Int) > 0
   ·have hp : wrap64 ((i : Int) - 1) = ((i - 1 : Nat) : Int) := by rw [wrap_in (by omega) (by omega)]; omega
    rw [if_pos c2, hp, if_pos (by omega), if_pos (by omega)] at h
    by_cases c3 : Op.bytesLess ((rd_T69 l ((i - 1 : Nat) : Int)).f0.toList) ((rd_T69 l (i : Int)).f0.toList) = true
    ·rw [if_pos c3] at h;replace h := Option.bind_eq_some_iff.mp h;obtain ⟨u, hu, h⟩ := h;obtain ⟨_, k2, hk2, h⟩ := step _ h;rw [hw] at h
     rcases Nat.eq_or_lt_of_le hij with rfl | hlt
     ·exact (cmp_less _ _).1 c3
     ·exact ih k2 hk2 (i + 1) h j (by omega) h0 hj
    ·rw [if_neg c3] at h; exact absurd (step _ h).1 (by simp)
   ·rw [if_neg c2] at h;replace h := Option.bind_eq_some_iff.mp h;obtain ⟨u, hu, h⟩ := h;obtain ⟨_, k2, hk2, h⟩ := step _ h;rw [hw] at h;exact ih k2 hk2 (i + 1) h j (by omega) h0 hj
  ·rw [if_neg c1] at h; exact absurd (step _ h).1 (by simp)
theorem disk_rising (room : Int) (l : List S69) (hl : l.length ≤ 1048576) (h : Ev (fun k => impl_DiskOK.f k room l) true) : Rising l ∧ l.length ≤ 8 := by
 obtain ⟨K, h⟩ := h;replace h := h (K + 1) (by omega);simp only [impl_DiskOK.f] at h;replace h := Option.bind_eq_some_iff.mp h;obtain ⟨t, ht, h⟩ := h
 have jbad : ∀ k, impl_DiskOK.j0 k true room l ≠ some true := fun k => by
  cases k with
  | zero => simp [impl_DiskOK.j0]
  | succ k => simp only [impl_DiskOK.j0]; rw [if_pos (by first | rfl | trivial)]; simp
 by_cases c1 : t = true
 ·rw [if_pos c1] at h
  by_cases c2 : (l.length : Int) > 8
  ·rw [if_pos c2] at h; exact absurd h (jbad _)
  ·rw [if_neg c2] at h;replace h := Option.bind_eq_some_iff.mp h;obtain ⟨u, hu, h⟩ := h
   by_cases c3 : u > room
   ·rw [decide_eq_true c3] at h; exact absurd h (jbad _)
   ·rw [decide_eq_false c3] at h;simp only [impl_DiskOK.j0] at h;rw [if_neg (by simp)] at h;exact ⟨fun j h0 hj => rising_from l room hl _ 0 h j (by omega) h0 hj, by omega⟩
 ·rw [if_neg c1] at h; exact absurd h (jbad _)
theorem rising_less (l : List S69) (h : Rising l) (d : Nat) : ∀ i : Nat, i + d + 1 < l.length → impl_Disk_fileAt.cmp (rd_T69 l (i : Int)).f0 (rd_T69 l ((i + d + 1 : Nat) : Int)).f0 < 0 := by
 induction d with
 | zero => intro i hi; exact h (i + 1) (by omega) hi
 | succ d ih =>
  intro i hi;have h1 := ih i (by omega);have h2 := h (i + (d + 1) + 1) (by omega) hi;exact cmp_trans _ _ _ h1 h2
theorem below_down (l : List S69) (h : Rising l) (x : ByteArray) (i j : Nat) (hij : i ≤ j) (hj : j < l.length) (hb : impl_Disk_fileAt.cmp (rd_T69 l (j : Int)).f0 x < 0) : impl_Disk_fileAt.cmp (rd_T69 l (i : Int)).f0 x < 0 := by
 rcases Nat.eq_or_lt_of_le hij with rfl | hlt
 ·exact hb
 ·have := rising_less l h (j - i - 1) i (by omega);rw [show i + (j - i - 1) + 1 = j by omega] at this;exact cmp_trans _ _ _ this hb
theorem bs_spec (l : List S69) (h : Rising l) (x : ByteArray) (f : Nat) : ∀ i j : Nat, j - i ≤ f → i ≤ j → j ≤ l.length → (∀ m, m < i → impl_Disk_fileAt.cmp (rd_T69 l (m : Int)).f0 x < 0) → (∀ m, j ≤ m → m < l.length → ¬ impl_Disk_fileAt.cmp (rd_T69 l (m : Int)).f0 x < 0) →
  impl_Disk_fileAt.bs l x f i j ≤ l.length ∧ (∀ m, m < impl_Disk_fileAt.bs l x f i j → impl_Disk_fileAt.cmp (rd_T69 l (m : Int)).f0 x < 0) ∧ (∀ m, impl_Disk_fileAt.bs l x f i j ≤ m → m < l.length → ¬ impl_Disk_fileAt.cmp (rd_T69 l (m : Int)).f0 x < 0) := by
 induction f with
 | zero =>
  intro i j h0 h1 h2 h3 h4
  obtain rfl : i = j := by omega
  exact ⟨h2, h3, h4⟩
 | succ f ih =>
  intro i j h0 h1 h2 h3 h4
  by_cases hlt : i < j
  ·simp only [impl_Disk_fileAt.bs, if_pos hlt]
   by_cases hc : impl_Disk_fileAt.cmp (rd_T69 l (((i + j) / 2 : Nat) : Int)).f0 x < 0
   ·rw [if_pos hc];exact ih _ _ (by omega) (by omega) h2 (fun m hm => below_down l h x m ((i + j) / 2) (by omega) (by omega) hc) h4
   ·rw [if_neg hc];exact ih _ _ (by omega) (by omega) (by omega) h3 (fun m hm hn hb => hc (below_down l h x ((i + j) / 2) m hm hn hb))
  ·simp only [impl_Disk_fileAt.bs, if_neg hlt]
   obtain rfl : i = j := by omega
   exact ⟨h2, h3, h4⟩
theorem fileAt_some (room : Int) (l : List S69) (h : Rising l) (h8 : l.length ≤ 8) (x : ByteArray) :
  ∃ (q : Nat) (b : Bool), impl_Disk_fileAt.f room l x = some ((q : Int), b) ∧ ((b = true ∧ q < l.length ∧ (rd_T69 l (q : Int)).f0 = x ∧ ∀ m, m < q → (rd_T69 l (m : Int)).f0 ≠ x) ∨ (b = false ∧ ∀ m, m < l.length → (rd_T69 l (m : Int)).f0 ≠ x)) := by
 obtain ⟨s1, s2, s3⟩ := bs_spec l h x l.length 0 l.length (by omega) (by omega) (Nat.le_refl _) (fun m hm => absurd hm (Nat.not_lt_zero _)) (fun m h1 h2 => by omega)
 have hself : ∀ y : ByteArray, impl_Disk_fileAt.cmp y y = 0 := fun y => (cmp_zero y y).2 rfl
 unfold impl_Disk_fileAt.f
 rw [if_pos (by omega)];generalize impl_Disk_fileAt.bs l x l.length 0 l.length = q at s1 s2 s3 ⊢;refine ⟨q, _, rfl, ?_⟩
 by_cases hf : q < l.length ∧ (rd_T69 l (q : Int)).f0 = x
 ·obtain ⟨f1, f2⟩ := hf;refine .inl ⟨?_, f1, f2, fun m hm he => ?_⟩
  ·rw [decide_eq_true f1, decide_eq_true ((cmp_zero _ _).2 f2)]; rfl
  ·have := s2 m hm;rw [he, hself] at this
   omega
 ·refine .inr ⟨?_, fun m hm he => ?_⟩
  ·rw [Bool.and_eq_false_iff]
   by_cases f1 : q < l.length
   ·exact .inr (decide_eq_false (fun hz => hf ⟨f1, (cmp_zero _ _).1 hz⟩))
   ·exact .inl (decide_eq_false f1)
  ·have hq : q ≤ m := by
    apply Decidable.byContradiction
    intro hn;have := s2 m (by omega);rw [he, hself] at this
    omega
   rcases Nat.eq_or_lt_of_le hq with rfl | hlt
   ·exact hf ⟨hm, he⟩
   ·have h1 := rising_less l h (m - q - 1) q (by omega);rw [show q + (m - q - 1) + 1 = m by omega, he] at h1;exact s3 q (Nat.le_refl _) (by omega) h1
theorem eqFile_same (a0) (a1) (a2) : laws_eqFile.f a0 a1 a2 a0 a1 a2 = some true := by
 unfold laws_eqFile.f
 repeat' split
 all_goals first | rfl | (exfalso; simp_all)
theorem eqFileS_ev (l : List S69) (hl : l.length ≤ 1048576) : Ev (fun k => laws_eqFileS.f k l l) true := by
 have key := ev_loop (fun k (i : Int) => laws_eqFileS.l0 k l l i) (fun i => 0 ≤ i ∧ i ≤ l.length) (fun i => l.length - i.toNat) (fun _ => true) (by
  rintro i ⟨h0, h1⟩
  by_cases hi : i < (l.length : Int)
  ·right
   refine ⟨i + 1, ⟨by omega, by omega⟩, by omega, rfl, 0, fun j _ => ?_⟩;simp only [laws_eqFileS.l0, eqFile_same, Option.bind_some];rw [if_pos hi, if_pos h0, if_pos hi, if_pos trivial, wrap_in (by omega) (by omega)]
  ·left
   refine ⟨0, fun j _ => ?_⟩;simp only [laws_eqFileS.l0]
   rw [if_neg hi])
 refine ev_congr (fun k => ?_) (key 0 ⟨by omega, by omega⟩)
 unfold laws_eqFileS.f
 rw [if_pos rfl]
theorem eqDisk_ev (a : Int) (l : List S69) (hl : l.length ≤ 1048576) : Ev (fun k => laws_eqDisk.f k a l a l) true := by
 unfold laws_eqDisk.f
 exact ev_if_pos rfl (ev_bind (eqFileS_ev l hl) (ev_if_pos rfl (ev_some _)))
theorem find_from (l : List S69) (room : Int) (x : ByteArray) (hl : l.length ≤ 1048576) (q : Nat) (hq : q < l.length) (he : (rd_T69 l (q : Int)).f0 = x) (d : Nat) : ∀ i : Nat, i + d = q → (∀ m, m < q → (rd_T69 l (m : Int)).f0 ≠ x) → Ev (fun k => spec_l03Find.l0 k x (i : Int) room l) (q : Int) := by
 induction d with
 | zero =>
  intro i hi hne
  obtain rfl : i = q := by omega
  refine ev_succ ?_;simp only [spec_l03Find.l0];exact ev_if_pos (by omega) (ev_if_pos (by omega) (ev_if_pos (by rw [he]) (ev_some _)))
 | succ d ih =>
  intro i hi hne
  have hw : wrap64 ((i : Int) + 1) = ((i + 1 : Nat) : Int) := by rw [wrap_in (by omega) (by omega)]; omega
  have := ih (i + 1) (by omega) hne;refine ev_succ ?_;simp only [spec_l03Find.l0, hw];refine ev_if_pos (by omega) (ev_if_pos (by omega) (ev_if_neg (fun hh => hne i (by omega) ?_) this));rw [ByteArray.toList_eq, ByteArray.toList_eq] at hh;exact ByteArray.ext (Array.toList_inj.1 hh)
theorem mem_tw (p : UInt8 → Bool) (l : List UInt8) : ∀ x ∈ l.takeWhile p, p x = true := by
 induction l with
 | nil => intro x hx; simp at hx
 | cons a l ih =>
  intro x hx;rw [List.takeWhile_cons] at hx
  split at hx
  ·rcases List.mem_cons.1 hx with rfl | h
   ·assumption
   ·exact ih x h
  ·simp at hx
theorem dw_nil (p : UInt8 → Bool) (l : List UInt8) : l.dropWhile p = [] ↔ ∀ x ∈ l, p x = true := by
 induction l with
 | nil => exact ⟨fun _ x hx => by simp at hx, fun _ => rfl⟩
 | cons a l ih =>
  rw [List.dropWhile_cons]
  by_cases h : p a = true
  ·rw [if_pos h, ih]
   exact ⟨fun g x hx => by
    rcases List.mem_cons.1 hx with rfl | h2
    ·exact h
    ·exact g x h2, fun g x hx => g x (List.mem_cons_of_mem _ hx)⟩
  ·rw [if_neg h];exact ⟨fun g => by simp at g, fun g => absurd (g a List.mem_cons_self) h⟩
theorem trim_nil (l cs : List UInt8) : Lib.trimS l cs = [] ↔ ∀ b ∈ l, cs.contains b = true := by
 unfold Lib.trimS Lib.trimLeftS Lib.trimRightS
 rw [dw_nil]
 constructor
 ·intro h b hb;have h1 : b ∈ l.reverse := List.mem_reverse.2 hb;rw [← List.takeWhile_append_dropWhile (p := fun x => cs.contains x) (l := l.reverse)] at h1
  rcases List.mem_append.1 h1 with h2 | h2
  ·exact mem_tw _ _ b h2
  ·exact h b (List.mem_reverse.2 h2)
 ·intro h b hb;have h1 := List.mem_reverse.1 hb;have h2 : b ∈ l.reverse := (List.dropWhile_sublist _).mem h1;exact h b (List.mem_reverse.1 h2)
def decL : List UInt8 := [48, 49, 50, 51, 52, 53, 54, 55, 56, 57]
theorem dec_all : ∀ n : Fin 256, decL.contains (n.val.toUInt8) = decide (48 ≤ n.val ∧ n.val ≤ 57) := by decide +kernel
theorem dec_contains (b : UInt8) : decL.contains b = decide (48 ≤ b.toNat ∧ b.toNat ≤ 57) := by
 have h := dec_all ⟨b.toNat, b.toNat_lt⟩
 have hb : b.toNat.toUInt8 = b := by show UInt8.ofNat b.toNat = b; simp
 rw [hb] at h;exact h
def segN (x : ByteArray) : Int := if x.size = 3 ∧ bt x 0 = 115 ∧ (48 ≤ bt x 1 ∧ bt x 1 ≤ 57) ∧ (48 ≤ bt x 2 ∧ bt x 2 ≤ 57) then 10 * (bt x 1 - 48) + (bt x 2 - 48) else 0
theorem three (x : ByteArray) (h : x.size = 3) : ∃ a b c : UInt8, x = ⟨#[a, b, c]⟩ := by
 obtain ⟨⟨l⟩⟩ := x;have h' : l.length = 3 := h
 match l, h' with
 | [a, b, c], _ => exact ⟨a, b, c, rfl⟩
theorem bt_three (a b c : UInt8) : bt (⟨#[a, b, c]⟩ : ByteArray) 0 = (a.toNat : Int) ∧ bt (⟨#[a, b, c]⟩ : ByteArray) 1 = (b.toNat : Int) ∧ bt (⟨#[a, b, c]⟩ : ByteArray) 2 = (c.toNat : Int) := ⟨rfl, rfl, rfl⟩
theorem segN_range (x : ByteArray) : 0 ≤ segN x ∧ segN x ≤ 99 := by
 unfold segN
 split <;> omega
theorem dig_eq (a : Int) : spec_l00Digit.f a = some (decide (48 ≤ a ∧ a ≤ 57)) := by
 unfold spec_l00Digit.f
 by_cases h : a ≥ 48
 ·rw [if_pos h]
  congr 1
  rw [Bool.eq_iff_iff, decide_eq_true_iff, decide_eq_true_iff]
  omega
 ·rw [if_neg h]
  congr 1
  symm
  exact decide_eq_false (by omega)
theorem number_eq (x : ByteArray) : spec_l04Number.f x = some (segN x) := by
 have h1 := bt_range x 1;have h2 := bt_range x 2;have w1 : wrap64 (bt x 1) = bt x 1 := wrap_in (by omega) (by omega);have w2 : wrap64 (bt x 2) = bt x 2 := wrap_in (by omega) (by omega);have w3 : wrap64 (bt x 1 - 48) = bt x 1 - 48 := wrap_in (by omega) (by omega);have w4 : wrap64 (10 * (bt x 1 - 48)) = 10 * (bt x 1 - 48) := wrap_in (by omega) (by omega);have w5 : wrap64 (10 * (bt x 1 - 48) + bt x 2) = 10 * (bt x 1 - 48) + bt x 2 := wrap_in (by omega) (by omega);have w6 : wrap64 (10 * (bt x 1 - 48) + bt x 2 - 48) = 10 * (bt x 1 - 48) + (bt x 2 - 48) := (wrap_in (by omega) (by omega)).trans (by omega)
 unfold spec_l04Number.f segN
 simp only [dig_eq, Option.bind_some, w1, w2, w3, w4, w5, w6];clear w1 w2 w3 w4 w5 w6
 by_cases c1 : x.size = 3
 ·rw [if_pos (by omega), if_pos (by omega)]
  by_cases c2 : bt x 0 = 115
  ·rw [if_pos c2, if_pos (by omega)]
   by_cases c3 : 48 ≤ bt x 1 ∧ bt x 1 ≤ 57
   ·rw [decide_eq_true c3, if_pos rfl, if_pos (by omega)]
    by_cases c4 : 48 ≤ bt x 2 ∧ bt x 2 ≤ 57
    ·rw [decide_eq_true c4, if_pos rfl, if_pos ⟨c1, c2, c3, c4⟩]
    ·rw [decide_eq_false c4, if_neg (by simp), if_neg (fun h => c4 h.2.2.2)]
   ·rw [decide_eq_false c3, if_neg (by simp), if_neg (fun h => c3 h.2.2.1)]
  ·rw [if_neg c2, if_neg (fun h => c2 h.2.1)]
 ·rw [if_neg (by omega), if_neg (fun h => c1 h.1)]
theorem segOf_eq (x : ByteArray) : impl_segmentOf.f x = some (segN x) := by
 unfold impl_segmentOf.f
 by_cases c1 : x.size = 3
 ·obtain ⟨a, b, c, rfl⟩ := three x c1;obtain ⟨e0, e1, e2⟩ := bt_three a b c;have hb := b.toNat_lt;have hc := c.toNat_lt;rw [if_pos (show ((⟨#[a, b, c]⟩ : ByteArray).size : Int) = 3 from rfl), if_pos (by show (0 : Int) < ((3 : Nat) : Int); omega)]
  unfold segN
  by_cases c2 : bt (⟨#[a, b, c]⟩ : ByteArray) 0 = 115
  ·rw [if_pos c2, if_pos (by show (1 : Int) ≤ ((3 : Nat) : Int); omega)]
   have ht : strings_Trim.f ((⟨#[a, b, c]⟩ : ByteArray).extract 1 (⟨#[a, b, c]⟩ : ByteArray).size) (⟨#[48, 49, 50, 51, 52, 53, 54, 55, 56, 57]⟩ : ByteArray) = some ⟨(Lib.trimS [b, c] decL).toArray⟩ := by
    unfold strings_Trim.f
    rw [if_pos ⟨by show (2 : Nat) ≤ _; omega, by decide, by decide⟩]
    rfl
   rw [ht, Option.bind_some]
   have hn : (⟨(Lib.trimS [b, c] decL).toArray⟩ : ByteArray).toList = ([] : List UInt8) ↔ (48 ≤ b.toNat ∧ b.toNat ≤ 57) ∧ (48 ≤ c.toNat ∧ c.toNat ≤ 57) := by
    rw [ByteArray.toList_eq]
    show Lib.trimS [b, c] decL = [] ↔ _
    rw [trim_nil];simp only [List.mem_cons, List.not_mem_nil, or_false, forall_eq_or_imp, forall_eq, dec_contains, decide_eq_true_iff]
   by_cases c3 : (48 ≤ b.toNat ∧ b.toNat ≤ 57) ∧ (48 ≤ c.toNat ∧ c.toNat ≤ 57)
   ·rw [if_pos (hn.2 c3), if_pos (by show (1 : Int) < ((3 : Nat) : Int); omega), if_pos (by show (2 : Int) < ((3 : Nat) : Int); omega), if_pos ⟨rfl, c2, by rw [e1, e2]; omega⟩, e1, e2]
    congr 1
    omega
   ·rw [if_neg (fun h => c3 (hn.1 h)), if_neg (fun h => c3 (by have h3 := h.2.2; rw [e1, e2] at h3; omega))]
  ·rw [if_neg c2, if_neg (fun h => c2 h.2.1)]
 ·rw [if_neg (by omega)]
  unfold segN
  rw [if_neg (fun h => c1 h.1)]
theorem digit_ev (d : Int) (h0 : 0 ≤ d) (h9 : d ≤ 9) : Ev (fun k => spec_l00Digits.f k d) (strOfNums [48 + d]) := by
 have w : (wrap64 (48 + d)) % 256 = 48 + d := by rw [wrap_in (by omega) (by omega)]; omega
 refine ev_succ ?_;simp only [spec_l00Digits.f, w];exact ev_if_neg (by omega) (ev_if_neg (by omega) (ev_if_pos (by omega) (ev_some _)))
theorem segName_ev (d e : Int) (h0 : 0 ≤ d) (h9 : d ≤ 9) (k0 : 0 ≤ e) (k9 : e ≤ 9) : Ev (fun k => spec_l04Name.f k (10 * d + e)) (strOfNums [115, 48 + d, 48 + e]) := by
 have h1 : wrap64 (Int.tdiv (10 * d + e) 10) = d := by
  rw [Int.tdiv_eq_ediv_of_nonneg (by omega), wrap_in (by omega) (by omega)]
  omega
 have h2 : Int.tmod (10 * d + e) 10 = e := by
  rw [Int.tmod_eq_emod_of_nonneg (by omega)]
  omega
 have hs : (strOfNums [115, 48 + d, 48 + e]) = ((⟨#[115]⟩ : ByteArray) ++ strOfNums [48 + d]) ++ strOfNums [48 + e] := by
  show strOfNums ([115] ++ [48 + d] ++ [48 + e]) = _
  rw [strOfNums_append, strOfNums_append]
  rfl
 unfold spec_l04Name.f
 simp only [h1, h2];rw [hs];exact ev_bind (digit_ev d h0 h9) (ev_if_pos (by rw [size_strOfNums]; simp) (ev_bind (digit_ev e k0 k9) (ev_if_pos (by rw [size_strOfNums, size_strOfNums]; simp) (ev_some _))))
theorem name_back (x : ByteArray) (h : segN x > 0) : Ev (fun k => spec_l04Name.f k (segN x)) x := by
 unfold segN at h ⊢
 split at h
 ·rename_i hc
  rw [if_pos hc];obtain ⟨c1, c2, c3, c4⟩ := hc;have := segName_ev (bt x 1 - 48) (bt x 2 - 48) (by omega) (by omega) (by omega) (by omega)
  have hx : strOfNums [115, 48 + (bt x 1 - 48), 48 + (bt x 2 - 48)] = x := by
   have hb := strOfNums_bytesOf x
   have hl : bytesOf x = [115, 48 + (bt x 1 - 48), 48 + (bt x 2 - 48)] := by
    obtain ⟨a, b, c, rfl⟩ := three x c1;obtain ⟨e0, e1, e2⟩ := bt_three a b c;rw [e1, e2];rw [e0] at c2
    show [(a.toNat : Int), (b.toNat : Int), (c.toNat : Int)] = _
    rw [c2]
    congr 2
    ·omega
    ·congr 1
     omega
   rw [← hl];exact hb
  rw [hx] at this;exact this
 ·omega
def crcH (x : Nat) : Nat := if x % 2 = 1 then (x / 2) ^^^ 3988292384 else x / 2
def crc8 : Nat → Nat → Nat
 | 0, x => x
 | n + 1, x => crc8 n (crcH x)
def crcL : Nat → List Int → Nat
 | x, [] => x
 | x, b :: l => crcL (crc8 8 (x ^^^ b.toNat)) l
theorem crcH_lt {x : Nat} (h : x < 4294967296) : crcH x < 4294967296 := by
 unfold crcH
 split
 ·exact Nat.xor_lt_two_pow (n := 32) (by omega) (by omega)
 ·omega
theorem crc8_lt (n : Nat) : ∀ {x : Nat}, x < 4294967296 → crc8 n x < 4294967296 := by
 induction n with
 | zero => intro x h; exact h
 | succ n ih => intro x h; exact ih (crcH_lt h)
theorem spec_half (k : Nat) (l : List Int) (x : Nat) (hx : x < 4294967296) (i j : Int) (hj : 0 ≤ j ∧ j < 8) : spec_l01Check.l1 (k + 1) l (x : Int) i j = spec_l01Check.l1 k l ((crcH x : Nat) : Int) i (j + 1) := by
 simp only [spec_l01Check.l1];rw [if_pos hj.2, wrap_in (x := j + 1) (by omega) (by omega), Int.tmod_eq_emod_of_nonneg (by omega), Int.tdiv_eq_ediv_of_nonneg (by omega), wrap_in (x := (x : Int) / 2) (by omega) (by omega)]
 unfold crcH
 by_cases h : x % 2 = 1
 ·rw [if_pos (by omega), if_pos h, i64_xor _ _ (by omega) (by omega) (by omega) (by omega)]
  rfl
 ·rw [if_neg (by omega), if_neg h]
  rfl
theorem impl_half (k : Nat) (s : ByteArray) (x : Nat) (hx : x < 4294967296) (n i j : Int) (hj : 0 ≤ j ∧ j < 8) : impl_check32.l1 (k + 1) s (x : Int) n i j = impl_check32.l1 k s ((crcH x : Nat) : Int) n i (j + 1) := by
 simp only [impl_check32.l1];rw [if_pos hj.2, wrap_in (x := j + 1) (by omega) (by omega), u32_and _ _ (by omega) (by omega) (by omega) (by omega), Int.toNat_natCast, show Int.toNat 1 = 1 from rfl, nat_mask1]
 unfold crcH
 by_cases h : x % 2 = 1
 ·rw [if_pos (by omega), if_pos h, u32_xor _ _ (by omega) (by omega) (by omega) (by omega)]
  rfl
 ·rw [if_neg (by omega), if_neg h]
  rfl
theorem spec_halves (l : List Int) (i : Int) (n : Nat) : ∀ (k x : Nat) (j : Int), x < 4294967296 → 0 ≤ j → j + n = 8 → spec_l01Check.l1 (k + n + 1) l (x : Int) i j = spec_l01Check.l0 k l ((crc8 n x : Nat) : Int) (wrap64 (i + 1)) := by
 induction n with
 | zero =>
  intro k x j hx h0 h8;simp only [spec_l01Check.l1];rw [if_neg (by omega)]
  rfl
 | succ n ih =>
  intro k x j hx h0 h8;rw [show k + (n + 1) + 1 = (k + n + 1) + 1 from by omega, spec_half _ l x hx i j ⟨h0, by omega⟩];exact ih k (crcH x) (j + 1) (crcH_lt hx) (by omega) (by omega)
theorem impl_halves (s : ByteArray) (m i : Int) (n : Nat) : ∀ (k x : Nat) (j : Int), x < 4294967296 → 0 ≤ j → j + n = 8 → impl_check32.l1 (k + n + 1) s (x : Int) m i j = impl_check32.l0 k s ((crc8 n x : Nat) : Int) m (wrap64 (i + 1)) := by
 induction n with
 | zero =>
  intro k x j hx h0 h8;simp only [impl_check32.l1];rw [if_neg (by omega)]
  rfl
 | succ n ih =>
  intro k x j hx h0 h8;rw [show k + (n + 1) + 1 = (k + n + 1) + 1 from by omega, impl_half _ s x hx m i j ⟨h0, by omega⟩];exact ih k (crcH x) (j + 1) (crcH_lt hx) (by omega) (by omega)
theorem rd_drop (l : List Int) (i : Nat) (hi : i < l.length) : l.drop i = rd l (i : Int) :: l.drop (i + 1) := by
 unfold rd
 rw [Int.toNat_natCast, List.getD_eq_getElem?_getD, List.getElem?_eq_getElem hi, Option.getD_some];exact List.drop_eq_getElem_cons hi
theorem rd_byte (l : List Int) (hb : ∀ x ∈ l, 0 ≤ x ∧ x < 256) (i : Nat) (hi : i < l.length) : 0 ≤ rd l (i : Int) ∧ rd l (i : Int) < 256 := by
 unfold rd
 rw [Int.toNat_natCast, List.getD_eq_getElem?_getD, List.getElem?_eq_getElem hi, Option.getD_some];exact hb _ (List.getElem_mem hi)
theorem spec_from (l : List Int) (hb : ∀ x ∈ l, 0 ≤ x ∧ x < 256) (hl : l.length ≤ 1048576) (d : Nat) : ∀ (i x : Nat), i + d = l.length → x < 4294967296 → Ev (fun k => spec_l01Check.l0 k l (x : Int) (i : Int)) (((crcL x (l.drop i)) ^^^ 4294967295 : Nat) : Int) := by
 induction d with
 | zero =>
  intro i x hi hx;refine ev_succ (ev_of_eq fun k => ?_);simp only [spec_l01Check.l0];rw [if_neg (by omega), i64_xor _ _ (by omega) (by omega) (by omega) (by omega), List.drop_eq_nil_of_le (by omega)]
  rfl
 | succ d ih =>
  intro i x hi hx
  have hlt : i < l.length := by omega
  have hr := rd_byte l hb i hlt;obtain ⟨b, hbe⟩ := Int.eq_ofNat_of_zero_le hr.1
  have hb256 : b < 256 := by omega
  have hx2 : x ^^^ b < 4294967296 := Nat.xor_lt_two_pow (n := 32) (by omega) (by omega);rw [rd_drop l i hlt, hbe]
  show Ev _ (((crcL (crc8 8 (x ^^^ b)) (l.drop (i + 1))) ^^^ 4294967295 : Nat) : Int)
  obtain ⟨K, hK⟩ := ih (i + 1) (crc8 8 (x ^^^ b)) (by omega) (crc8_lt 8 hx2);refine ⟨K + 10, fun k hk => ?_⟩;obtain ⟨m, rfl⟩ : ∃ m, k = (m + 8 + 1) + 1 := ⟨k - 10, by omega⟩
  show spec_l01Check.l0 ((m + 8 + 1) + 1) l (x : Int) (i : Int) = _
  simp only [spec_l01Check.l0];rw [if_pos (by omega), if_pos (by omega), hbe, wrap_in (by omega) (by omega), i64_xor _ _ (by omega) (by omega) (by omega) (by omega)];have := spec_halves l (i : Int) 8 m (x ^^^ b) 0 hx2 (by omega) (by omega);rw [show ((Int.toNat (x : Int)) ^^^ (Int.toNat (b : Int)) : Nat) = x ^^^ b from rfl, this, wrap_in (by omega) (by omega)];exact hK m (by omega)
theorem impl_from (l : List Int) (hb : ∀ x ∈ l, 0 ≤ x ∧ x < 256) (hl : l.length ≤ 1048576) (d : Nat) : ∀ (i x : Nat), i + d = l.length → x < 4294967296 → Ev (fun k => impl_check32.l0 k (strOfNums l) (x : Int) (l.length : Int) (i : Int)) (((crcL x (l.drop i)) ^^^ 4294967295 : Nat) : Int) := by
 induction d with
 | zero =>
  intro i x hi hx;refine ev_succ (ev_of_eq fun k => ?_);have hx3 : crcL x [] ^^^ 4294967295 < 4294967296 := Nat.xor_lt_two_pow (n := 32) hx (by omega);simp only [impl_check32.l0];rw [if_neg (by omega), u32_xor _ _ (by omega) (by omega) (by omega) (by omega), List.drop_eq_nil_of_le (by omega), Nat.xor_comm]
  show some (wrap64 ((x ^^^ 4294967295 : Nat) : Int)) = some ((x ^^^ 4294967295 : Nat) : Int)
  rw [wrap_in (by omega) (by have : x ^^^ 4294967295 < 4294967296 := hx3; omega)]
 | succ d ih =>
  intro i x hi hx
  have hlt : i < l.length := by omega
  have hr := rd_byte l hb i hlt
  have hbt : bt (strOfNums l) (i : Int) = rd l (i : Int) := by
   unfold rd at hr ⊢
   rw [Int.toNat_natCast] at hr ⊢;exact bt_strOfNums l i hlt hr.1 hr.2
  obtain ⟨b, hbe⟩ := Int.eq_ofNat_of_zero_le hr.1
  have hb256 : b < 256 := by omega
  have hx2 : x ^^^ b < 4294967296 := Nat.xor_lt_two_pow (n := 32) (by omega) (by omega);rw [rd_drop l i hlt, hbe]
  show Ev _ (((crcL (crc8 8 (x ^^^ b)) (l.drop (i + 1))) ^^^ 4294967295 : Nat) : Int)
  obtain ⟨K, hK⟩ := ih (i + 1) (crc8 8 (x ^^^ b)) (by omega) (crc8_lt 8 hx2);refine ⟨K + 10, fun k hk => ?_⟩;obtain ⟨m, rfl⟩ : ∃ m, k = (m + 8 + 1) + 1 := ⟨k - 10, by omega⟩
  show impl_check32.l0 ((m + 8 + 1) + 1) (strOfNums l) (x : Int) (l.length : Int) (i : Int) = _
  simp only [impl_check32.l0];rw [if_pos (by omega), if_pos (by omega), if_pos (by rw [size_strOfNums]; omega), hbt, hbe, show (b : Int) % 4294967296 = (b : Int) from by omega, u32_xor _ _ (by omega) (by omega) (by omega) (by omega)];have := impl_halves (strOfNums l) (l.length : Int) (i : Int) 8 m (x ^^^ b) 0 hx2 (by omega) (by omega);rw [show ((Int.toNat (x : Int)) ^^^ (Int.toNat (b : Int)) : Nat) = x ^^^ b from rfl, this, wrap_in (by omega) (by omega)];exact hK m (by omega)
def crcV (l : List Int) : Int := ((crcL 4294967295 l ^^^ 4294967295 : Nat) : Int)
theorem spec_check_ev (l : List Int) (hb : ∀ x ∈ l, 0 ≤ x ∧ x < 256) (hl : l.length ≤ 1048576) : Ev (fun k => spec_l01Check.f k l) (crcV l) :=
 spec_from l hb hl l.length 0 4294967295 (by omega) (by omega)
theorem impl_check_ev (l : List Int) (hb : ∀ x ∈ l, 0 ≤ x ∧ x < 256) (hl : l.length ≤ 1048576) : Ev (fun k => impl_check32.f k (strOfNums l)) (crcV l) := by
 have h := impl_from l hb hl l.length 0 4294967295 (by omega) (by omega)
 unfold impl_check32.f
 rw [size_strOfNums];exact h
theorem crcL_lt (l : List Int) (hb : ∀ x ∈ l, 0 ≤ x ∧ x < 256) : ∀ x, x < 4294967296 → crcL x l < 4294967296 := by
 induction l with
 | nil => intro x h; exact h
 | cons b r ih =>
  intro x h;have h1 := hb b List.mem_cons_self;refine ih (fun y hy => hb y (List.mem_cons_of_mem _ hy)) _ (crc8_lt 8 (Nat.xor_lt_two_pow (n := 32) (by omega) (by omega)))
theorem crcV_range (l : List Int) (hb : ∀ x ∈ l, 0 ≤ x ∧ x < 256) : 0 ≤ crcV l ∧ crcV l < 4294967296 := by
 unfold crcV
 have h := crcL_lt l hb 4294967295 (by omega);have h2 : crcL 4294967295 l ^^^ 4294967295 < 4294967296 := Nat.xor_lt_two_pow (n := 32) h (by omega)
 omega
theorem number_from (m : Nat) (hm : m ≤ 1000) (i : Nat) : ∀ (n : Int) (x : List Int), i ≤ m → x.length = m → Ev (fun k => impl_number.l0 k n x ((i : Int) - 1)) (strOfNums (BE n i ++ x.drop i)) := by
 induction i with
 | zero =>
  intro n x hi hx;refine ev_succ (ev_of_eq fun k => ?_);simp only [impl_number.l0];rw [if_neg (by omega)]
  rfl
 | succ i ih =>
  intro n x hi hx;have h := ih (n / 256) (x.set i (n % 256)) (by omega) (by rw [List.length_set, hx])
  have he : BE (n / 256) i ++ (x.set i (n % 256)).drop i = BE n (i + 1) ++ x.drop (i + 1) := by
   have hd : (x.set i (n % 256)).drop i = (n % 256) :: x.drop (i + 1) := by
    rw [List.drop_eq_getElem_cons (by rw [List.length_set]; omega), List.getElem_set_self, List.drop_set_of_lt (by omega)]
   rw [hd, BE, List.append_assoc]
   rfl
  rw [he] at h;refine ev_succ (ev_congr (fun k => ?_) h);simp only [impl_number.l0];rw [show (((i + 1 : Nat) : Int) - 1) = (i : Int) from by omega, if_pos (by omega), if_pos (by omega), if_pos (by omega), Int.toNat_natCast, wrap_in (x := (i : Int) - 1) (by omega) (by omega)]
theorem number_ev (n : Int) (m : Nat) (hm : m ≤ 1000) : Ev (fun k => impl_number.f k n (m : Int)) (strOfNums (BE n m)) := by
 have h := number_from m hm m n (List.replicate m 0) (Nat.le_refl _) (by simp);rw [List.drop_of_length_le (by simp), List.append_nil] at h;refine ev_congr (fun k => ?_) h
 unfold impl_number.f
 rw [if_pos (by omega), if_pos (by omega), Int.toNat_natCast, wrap_in (by omega) (by omega)]
def Bytes (l : List Int) : Prop := ∀ x ∈ l, 0 ≤ x ∧ x < 256
theorem Bytes.app {a b : List Int} (ha : Bytes a) (hb : Bytes b) : Bytes (a ++ b) := fun x hx => by
 rcases List.mem_append.1 hx with h | h
 ·exact ha x h
 ·exact hb x h
theorem Bytes.be (n : Int) (m : Nat) : Bytes (BE n m) := BE_range m n
def frameL (p : List Int) : List Int := BE (p.length : Int) 2 ++ BE (crcV (BE (p.length : Int) 2 ++ p)) 4 ++ p
theorem frameL_length (p : List Int) : (frameL p).length = 6 + p.length := by
 unfold frameL
 rw [List.length_append, List.length_append, BE_length, BE_length]
theorem BE2 (n : Int) : BE n 2 = [n / 256 % 256, n % 256] := rfl
theorem BE4 (n : Int) : BE n 4 = [n / 256 / 256 / 256 % 256, n / 256 / 256 % 256, n / 256 % 256, n % 256] := rfl
theorem impl_frame_ev (p : List Int) (hb : Bytes p) (hl : p.length ≤ 1000000) : Ev (fun k => impl_frame.f k (strOfNums p)) (strOfNums (frameL p)) := by
 unfold impl_frame.f
 rw [size_strOfNums];have h1 := number_ev (p.length : Int) 2 (by omega);refine ev_bind h1 ?_;refine ev_if_pos (by rw [size_strOfNums, BE_length]; omega) ?_;rw [← strOfNums_append];refine ev_bind (impl_check_ev _ ((Bytes.be _ _).app hb) (by rw [List.length_append, BE_length]; omega)) ?_;refine ev_bind (number_ev _ 4 (by omega)) ?_;refine ev_if_pos (by rw [size_strOfNums, size_strOfNums, BE_length, BE_length]; omega) ?_;refine ev_if_pos (by rw [size_strOfNums, size_strOfNums, BE_length, BE_length]; omega) ?_;rw [← strOfNums_append, ← strOfNums_append];exact ev_some _
theorem spec_frame_ev (p : List Int) (hb : Bytes p) (hl : p.length ≤ 1000000) : Ev (fun k => spec_l02Frame.f k p) (frameL p) := by
 unfold spec_l02Frame.f
 have h2 : spec_l02Two.f (p.length : Int) = some (BE (p.length : Int) 2) := by
  unfold spec_l02Two.f
  rw [BE2, Int.tdiv_eq_ediv_of_nonneg (by omega), wrap_in (by omega) (by omega)]
 rw [h2];simp only [Option.bind_some, List.nil_append];refine ev_if_pos (by rw [BE_length]; show 0 + 2 < _; omega) (ev_if_pos (by rw [BE_length]; omega) ?_);have hc := crcV_range (BE (p.length : Int) 2 ++ p) ((Bytes.be _ _).app hb);refine ev_bind (spec_check_ev _ ((Bytes.be _ _).app hb) (by rw [List.length_append, BE_length]; omega)) ?_
 have h4 : spec_l02Four.f (crcV (BE (p.length : Int) 2 ++ p)) = some (BE (crcV (BE (p.length : Int) 2 ++ p)) 4) := by
  unfold spec_l02Four.f
  rw [BE4]
  congr 1
  generalize crcV (BE (p.length : Int) 2 ++ p) = c
  have e1 : c / 16777216 = c / 256 / 256 / 256 := by omega
  have e2 : c / 65536 = c / 256 / 256 := by omega
  rw [e1, e2]
 rw [h4];simp only [Option.bind_some];refine ev_if_pos (by rw [BE_length, BE_length]; omega) (ev_if_pos (by rw [List.length_append, BE_length, BE_length]; omega) (ev_some _))
theorem ext_nums (l : List Int) (a b : Nat) : (strOfNums l).extract a b = strOfNums ((l.take b).drop a) := by
 apply ByteArray.ext
 rw [ByteArray.data_extract]
 show ((l.map fun n => UInt8.ofNat n.toNat).toArray).extract a b = (((l.take b).drop a).map fun n => UInt8.ofNat n.toNat).toArray
 rw [List.extract_toArray]
 congr 1
 rw [List.extract_eq_take_drop, List.map_drop, List.map_take, List.drop_take]
theorem numberOf2 (a b : Int) (ha : 0 ≤ a ∧ a < 256) (hb : 0 ≤ b ∧ b < 256) : Ev (fun k => impl_numberOf.f k (strOfNums [a, b])) (a * 256 + b) := by
 have b0 : bt (strOfNums [a, b]) ((0 : Nat) : Int) = a := bt_strOfNums [a, b] 0 (by simp) (by simpa using ha.1) (by simpa using ha.2);have b1 : bt (strOfNums [a, b]) ((1 : Nat) : Int) = b := bt_strOfNums [a, b] 1 (by simp) (by simpa using hb.1) (by simpa using hb.2);have hs : (strOfNums [a, b]).size = 2 := size_strOfNums _;refine ⟨3, fun k hk => ?_⟩;obtain ⟨k, rfl⟩ : ∃ q, k = q + 3 := ⟨k - 3, by omega⟩
 show impl_numberOf.f (k + 1 + 1 + 1) (strOfNums [a, b]) = _
 simp only [impl_numberOf.f, impl_numberOf.l0];rw [show ((0 : Nat) : Int) = 0 from rfl] at b0;rw [show ((1 : Nat) : Int) = 1 from rfl] at b1;have w0 : wrap64 (0 + 1) = 1 := wrap_in (by omega) (by omega);have w1 : wrap64 (1 + 1) = 2 := wrap_in (by omega) (by omega);have w2 : wrap64 (0 * 256) = 0 := wrap_in (by omega) (by omega);rw [hs, w0, w1, b0, b1, wrap_in (x := a) (by omega) (by omega), wrap_in (x := b) (by omega) (by omega), w2, Int.zero_add, wrap_in (x := a) (by omega) (by omega), wrap_in (x := a * 256) (by omega) (by omega), wrap_in (x := a * 256 + b) (by omega) (by omega)]
 rfl
theorem cut_eq (l : List Int) (n a b : Nat) : ((l.drop n).take b).drop a = (l.take (n + b)).drop (n + a) := by
 rw [List.take_drop, List.drop_drop]
theorem Bytes.sub {l : List Int} (h : Bytes l) (a b : Nat) : Bytes ((l.take b).drop a) := fun x hx => h x (List.mem_of_mem_take (List.mem_of_mem_drop hx))
theorem Bytes.rd {l : List Int} (h : Bytes l) (n : Nat) (hn : n < l.length) : 0 ≤ rd l (n : Int) ∧ rd l (n : Int) < 256 := h _ (rd_mem l n hn)
theorem wraps (L n z : Nat) (h : L ≤ 65536) (h1 : n ≤ L) (h2 : z ≤ 200) : wrap64 (6 + (z : Int)) = ((6 + z : Nat) : Int) ∧ wrap64 ((n : Int) + 6) = ((n + 6 : Nat) : Int) ∧ wrap64 (((n + 6 : Nat) : Int) + (z : Int)) = ((n + 6 + z : Nat) : Int) ∧
  wrap64 ((n : Int) + ((6 + z : Nat) : Int)) = ((n + 6 + z : Nat) : Int) ∧ wrap64 ((L : Int) - (n : Int) - 6) = (L : Int) - (n : Int) - 6 :=
 ⟨(wrap_in (by omega) (by omega)).trans (by omega), (wrap_in (by omega) (by omega)).trans (by omega), (wrap_in (by omega) (by omega)).trans (by omega), (wrap_in (by omega) (by omega)).trans (by omega), wrap_in (by omega) (by omega)⟩
theorem frames_both (l : List Int) (hb : Bytes l) (hl : l.length ≤ 65536) (m : Nat) : ∀ (n : Nat) (acc : List ByteArray), l.length - n ≤ m → n ≤ l.length → acc.length ≤ n →
  ∃ (r : List ByteArray) (p e : Int), Ev (fun k => spec_l02Frames.l0 k l acc (n : Int)) (r, p, e) ∧ Ev (fun k => impl_readFrames.l0 k (strOfNums l) acc (n : Int)) (r, p, e) ∧ r.length ≤ l.length := by
 induction m with
 | zero =>
  intro n acc hm hn ha
  have hn' : n = l.length := by omega
  refine ⟨acc, n, 0, ev_succ ?_, ev_succ ?_, by omega⟩
  ·simp only [spec_l02Frames.l0]; exact ev_if_neg (by omega) (ev_some _)
  ·simp only [impl_readFrames.l0]; exact ev_if_neg (by rw [size_strOfNums]; omega) (ev_some _)
 | succ m ih =>
  intro n acc hm hn ha
  by_cases hlt : n < l.length
  ·have h1 : (n : Int) < (l.length : Int) := by omega
   have h0 : (0 : Int) ≤ (n : Int) := by omega
   have hs : (strOfNums l).size = l.length := size_strOfNums l
   have hex : (strOfNums l).extract n (strOfNums l).size = strOfNums (l.drop n) := by rw [hs, ext_nums, List.take_length]
   have hds : (strOfNums (l.drop n)).size = l.length - n := by rw [size_strOfNums, List.length_drop]
   have hwL : Aside0 (wrap64 ((l.length : Int) - (n : Int)) = (l.length : Int) - (n : Int)) := ⟨wrap_in (by omega) (by omega)⟩
   have impl_err : ∀ e : Int, e ≠ 0 → Ev (fun k => impl_frameAt.f k (strOfNums (l.drop n))) (((⟨#[]⟩ : ByteArray), e)) → Ev (fun k => impl_readFrames.l0 k (strOfNums l) acc (n : Int)) (acc, (n : Int), e) := fun e he h => by
    refine ev_succ ?_;simp only [impl_readFrames.l0, Int.toNat_natCast, hex];exact ev_if_pos (by rw [hs]; exact h1) (ev_if_pos h0 (ev_if_pos (by rw [hs]; omega) (ev_bind h (ev_if_neg he (ev_some _)))))
   by_cases c1 : l.length - n < 6
   ·refine ⟨acc, n, 16, ev_succ ?_, impl_err 16 (by omega) ?_, by omega⟩
    ·simp only [spec_l02Frames.l0, hwL.out];exact ev_if_pos h1 (ev_if_pos (by omega) (ev_some _))
    ·unfold impl_frameAt.f
     exact ev_if_pos (by rw [hds]; omega) (ev_some _)
   ·have r0 := hb.rd n hlt;have r1 := hb.rd (n + 1) (by omega);have hw1 : Aside0 (wrap64 ((n : Int) + 1) = ((n + 1 : Nat) : Int)) := ⟨by rw [wrap_in (by omega) (by omega)]; omega⟩;obtain ⟨a, ha0⟩ : ∃ a, rd l (n : Int) = a := ⟨_, rfl⟩;obtain ⟨b, hb0⟩ : ∃ b, rd l ((n + 1 : Nat) : Int) = b := ⟨_, rfl⟩;rw [ha0] at r0;rw [hb0] at r1
    have hz0_ : Aside0 (wrap64 (wrap64 (wrap64 a * 256) + wrap64 b) = a * 256 + b) := ⟨by
     rw [wrap_in (x := a) (by omega) (by omega), wrap_in (x := b) (by omega) (by omega), wrap_in (x := a * 256) (by omega) (by omega), wrap_in (by omega) (by omega)]⟩
    have htwo : (strOfNums (l.drop n)).extract 0 2 = strOfNums [a, b] := by
     rw [ext_nums, List.drop_zero, ← ha0, ← hb0]
     congr 1
     have e1 := rd_drop l n hlt;have e2 := rd_drop l (n + 1) (by omega);rw [e1, e2]
     rfl
    have hnum : Ev (fun k => impl_numberOf.f k ((strOfNums (l.drop n)).extract 0 2)) (a * 256 + b) := by rw [htwo]; exact numberOf2 a b r0 r1
    obtain ⟨z, hzz⟩ : ∃ z : Nat, a * 256 + b = (z : Int) := Int.eq_ofNat_of_zero_le (by omega);have hz : Aside0 (wrap64 (wrap64 (wrap64 a * 256) + wrap64 b) = (z : Int)) := ⟨hz0_.out.trans hzz⟩;clear hz0_;rw [hzz] at hnum
    by_cases c2 : 1 ≤ z ∧ z ≤ 200
    ·have c2' : decide ((1 : Int) ≤ (z : Int) ∧ (z : Int) ≤ 200) = true := decide_eq_true (by omega)
     have hz0 : ¬ (z : Int) = 0 := by omega
     have hz2 : decide ((z : Int) > 200) = false := decide_eq_false (by omega);have hW := Aside0.mk (wraps l.length n z (by omega) (by omega) (by omega))
     have spec_in : ∀ {r : List ByteArray × Int × Int}, Ev (fun k => spec_l02Frames.j1 k l acc (n : Int) (z : Int) false) r → Ev (fun k => spec_l02Frames.l0 k l acc (n : Int)) r := fun h => by
      refine ev_succ ?_;simp only [spec_l02Frames.l0, hwL.out, hw1.out, ha0, hb0, hz.out, hz2];exact ev_if_pos h1 (ev_if_neg (by omega) (ev_if_pos h0 (ev_if_pos (by omega) (ev_if_pos (by omega) (ev_if_neg hz0 h)))))
     by_cases c3 : l.length - n < 6 + z
     ·refine ⟨acc, n, 16, spec_in (ev_succ ?_), impl_err 16 (by omega) ?_, by omega⟩
      ·simp only [spec_l02Frames.j1, hwL.out, hW.out.2.2.2.2];exact ev_if_neg (by simp) (ev_if_pos (by omega) (ev_some _))
      ·unfold impl_frameAt.f
       refine ev_if_neg (by rw [hds]; omega) (ev_if_pos (by omega) (ev_if_pos (by rw [hds]; omega) (ev_bind hnum ?_)));simp only [within_eq, c2', hW.out.1, Option.bind_some];exact ev_if_pos trivial (ev_if_pos (by rw [hds]; omega) (ev_some _))
     ·obtain ⟨p, hp⟩ : ∃ p, (l.take (n + 6 + z)).drop (n + 6) = p := ⟨_, rfl⟩;obtain ⟨q, hq⟩ : ∃ q, (l.take (n + 6 + z)).drop n = q := ⟨_, rfl⟩
      have hpb : Bytes p := by rw [← hp]; exact hb.sub _ _
      have hpl : p.length = z := by rw [← hp, List.length_drop, List.length_take]; omega
      have hep : (strOfNums (l.drop n)).extract 6 (6 + z) = strOfNums p := by
       rw [ext_nums, cut_eq, ← hp, show n + (6 + z) = n + 6 + z by omega]
      have heq : (strOfNums (l.drop n)).extract 0 (6 + z) = strOfNums q := by
       rw [ext_nums, cut_eq, ← hq, show n + (6 + z) = n + 6 + z by omega, Nat.add_zero]
      have fi := impl_frame_ev p hpb (by omega);have fs := spec_frame_ev p hpb (by omega)
      have frame_in : ∀ {r : ByteArray × Int}, Ev (fun _ => if (strOfNums (frameL p)).toList = (strOfNums q).toList then some (strOfNums p, (0 : Int)) else some ((⟨#[]⟩ : ByteArray), 8)) r → Ev (fun k => impl_frameAt.f k (strOfNums (l.drop n))) r := fun h => by
       unfold impl_frameAt.f
       refine ev_if_neg (by rw [hds]; omega) (ev_if_pos (by omega) (ev_if_pos (by rw [hds]; omega) (ev_bind hnum ?_)));simp only [within_eq, c2', hW.out.1, Option.bind_some, Int.toNat_natCast, hep, heq];exact ev_if_pos trivial (ev_if_neg (by rw [hds]; omega) (ev_if_pos (by omega) (ev_if_pos (by rw [hds]; omega) (ev_bind fi (ev_if_pos (by omega) h)))))
      have spec_in2 : ∀ {r : List ByteArray × Int × Int}, Ev (fun k => if (strOfNums (frameL p)).toList = (strOfNums q).toList then (if acc.length < 8796093022208 then (spec_l02Frames.l0 k l (acc ++ [strOfNums p]) ((n + 6 + z : Nat) : Int)) else none) else some (acc, (n : Int), 8)) r → Ev (fun k => spec_l02Frames.l0 k l acc (n : Int)) r := fun h => by
       refine spec_in (ev_succ ?_);simp only [spec_l02Frames.j1, hwL.out, hW.out.2.2.2.2, hW.out.2.1, hW.out.2.2.1, hW.out.1, hW.out.2.2.2.1, Int.toNat_natCast, hp, hq];exact ev_if_neg (by simp) (ev_if_neg (by omega) (ev_if_pos (by omega) (ev_if_pos (by omega) (ev_if_pos (by omega) (ev_bind fs (ev_if_pos h0 (ev_if_pos (by omega) h)))))))
      by_cases c4 : (strOfNums (frameL p)).toList = (strOfNums q).toList
      ·obtain ⟨r, pp, e, i1, i2, i3⟩ := ih (n + 6 + z) (acc ++ [strOfNums p]) (by omega) (by omega) (by rw [List.length_append]; show acc.length + 1 ≤ _; omega);refine ⟨r, pp, e, spec_in2 (ev_if_pos c4 (ev_if_pos (by omega) i1)), ev_succ ?_, i3⟩;have hf : Ev (fun k => impl_frameAt.f k (strOfNums (l.drop n))) (strOfNums p, (0 : Int)) := frame_in (ev_if_pos c4 (ev_some _))
       have hps : ((strOfNums p).size : Int) = (z : Int) := by rw [size_strOfNums, hpl]
       simp only [impl_readFrames.l0, Int.toNat_natCast, hex];refine ev_if_pos (by rw [hs]; exact h1) (ev_if_pos h0 (ev_if_pos (by rw [hs]; omega) (ev_bind hf (ev_if_pos rfl (ev_if_pos (by omega) ?_)))));simp only [hps, hW.out.2.1, hW.out.2.2.1];exact i2
      ·exact ⟨acc, n, 8, spec_in2 (ev_if_neg c4 (ev_some _)), impl_err 8 (by omega) (frame_in (ev_if_neg c4 (ev_some _))), by omega⟩
    ·have c2' : decide ((1 : Int) ≤ (z : Int) ∧ (z : Int) ≤ 200) = false := decide_eq_false (by omega)
     have sbad : Ev (fun k => spec_l02Frames.j1 k l acc (n : Int) (z : Int) true) (acc, (n : Int), 8) := by
      refine ev_succ ?_;simp only [spec_l02Frames.j1];exact ev_if_pos trivial (ev_some _)
     refine ⟨acc, n, 8, ev_succ ?_, impl_err 8 (by omega) ?_, by omega⟩
     ·simp only [spec_l02Frames.l0, hwL.out, hw1.out, ha0, hb0, hz.out];refine ev_if_pos h1 (ev_if_neg (by omega) (ev_if_pos h0 (ev_if_pos (by omega) (ev_if_pos (by omega) ?_))))
      by_cases cz : (z : Int) = 0
      ·exact ev_if_pos cz sbad
      ·rw [decide_eq_true (show (z : Int) > 200 by omega)];exact ev_if_neg cz sbad
     ·unfold impl_frameAt.f
      refine ev_if_neg (by rw [hds]; omega) (ev_if_pos (by omega) (ev_if_pos (by rw [hds]; omega) (ev_bind hnum ?_)));simp only [within_eq, c2', Option.bind_some];exact ev_if_neg (by simp) (ev_some _)
  ·have hn' : n = l.length := by omega
   refine ⟨acc, n, 0, ev_succ ?_, ev_succ ?_, by omega⟩
   ·simp only [spec_l02Frames.l0]; exact ev_if_neg (by omega) (ev_some _)
   ·simp only [impl_readFrames.l0]; exact ev_if_neg (by rw [size_strOfNums]; omega) (ev_some _)
def segF (l : List S69) : Nat → Nat → List S69
 | 0, _ => []
 | d + 1, i => (if segN (rd_T69 l (i : Int)).f0 > 0 then [rd_T69 l (i : Int)] else []) ++ segF l d (i + 1)
theorem segF_length (l : List S69) (d : Nat) : ∀ i : Nat, (segF l d i).length ≤ d := by
 induction d with
 | zero => intro i; exact Nat.le_refl 0
 | succ d ih =>
  intro i;have := ih (i + 1);simp only [segF, List.length_append]
  split <;> simp <;> omega
theorem segF_mem (l : List S69) (d : Nat) : ∀ i : Nat, i + d = l.length → ∀ y ∈ segF l d i, ∃ p : Nat, i ≤ p ∧ p < l.length ∧ y = rd_T69 l (p : Int) ∧ segN y.f0 > 0 := by
 induction d with
 | zero => intro i _ y hy; cases hy
 | succ d ih =>
  intro i hi y hy;simp only [segF] at hy
  rcases List.mem_append.1 hy with h | h
  ·by_cases hp : segN (rd_T69 l (i : Int)).f0 > 0
   ·rw [if_pos hp] at h;obtain rfl := List.mem_singleton.1 h;exact ⟨i, Nat.le_refl _, by omega, rfl, hp⟩
   ·rw [if_neg hp] at h
    cases h
  ·obtain ⟨p, h1, h2, h3, h4⟩ := ih (i + 1) (by omega) y h;exact ⟨p, by omega, h2, h3, h4⟩
theorem segsI (l : List S69) (d : Nat) : ∀ (i : Nat) (acc : List S69), impl_walRead.segs l d i acc = some (acc ++ segF l d i) := by
 induction d with
 | zero => intro i acc; simp only [impl_walRead.segs, segF, List.append_nil]
 | succ d ih =>
  intro i acc;simp only [impl_walRead.segs, segF, segOf_eq, Option.bind_some];rw [ih]
  by_cases hp : segN (rd_T69 l (i : Int)).f0 > 0
  ·rw [if_pos hp, if_pos hp, List.append_assoc]
  ·rw [if_neg hp, if_neg hp, List.nil_append]
theorem segsS (room : Int) (l : List S69) (hl : l.length ≤ 1048576) (d : Nat) : ∀ (i : Nat) (acc : List Int), i + d = l.length → acc.length ≤ i → Ev (fun k => spec_l04Segments.l0 k acc (i : Int) room l) (acc ++ (segF l d i).map fun y => segN y.f0) := by
 induction d with
 | zero =>
  intro i acc hi ha;refine ev_succ ?_;simp only [spec_l04Segments.l0, segF, List.map_nil, List.append_nil];exact ev_if_neg (by omega) (ev_some _)
 | succ d ih =>
  intro i acc hi ha
  have hw : wrap64 ((i : Int) + 1) = ((i + 1 : Nat) : Int) := by rw [wrap_in (by omega) (by omega)]; omega
  refine ev_succ ?_;simp only [spec_l04Segments.l0, segF, number_eq, Option.bind_some, hw];refine ev_if_pos (by omega) (ev_if_pos (by omega) ?_)
  by_cases hp : segN (rd_T69 l (i : Int)).f0 > 0
  ·rw [if_pos hp, List.map_append, ← List.append_assoc];exact ev_if_pos hp (ev_if_pos (by omega) (ih (i + 1) _ (by omega) (by simp; omega)))
  ·rw [if_neg hp, List.nil_append];exact ev_if_neg hp (ih (i + 1) acc (by omega) (by omega))
theorem frameAt_fact (k : Nat) (x b : ByteArray) (e : Int) (h : impl_frameAt.f k x = some (b, e)) : (e = 0 ∨ e = 8 ∨ e = 16) ∧ b.size ≤ x.size := by
 have h0 : (⟨#[]⟩ : ByteArray).size ≤ x.size := Nat.zero_le _
 unfold impl_frameAt.f at h
 split at h
 ·cases h; exact ⟨by omega, h0⟩
 ·split at h
  ·split at h
   ·obtain ⟨t, _, h⟩ := Option.bind_eq_some_iff.mp h;obtain ⟨u, _, h⟩ := Option.bind_eq_some_iff.mp h
    split at h
    ·split at h
     ·cases h; exact ⟨by omega, h0⟩
     ·split at h
      ·split at h
       ·obtain ⟨v, _, h⟩ := Option.bind_eq_some_iff.mp h
        split at h
        ·split at h
         ·cases h; exact ⟨by omega, by rw [ByteArray.size_extract]; omega⟩
         ·cases h; exact ⟨by omega, h0⟩
        ·cases h
       ·cases h
      ·cases h
    ·cases h; exact ⟨by omega, h0⟩
   ·cases h
  ·cases h
theorem readFrames_fact (x : ByteArray) (k : Nat) : ∀ (acc : List ByteArray) (n : Int) (r : List ByteArray) (p e : Int), impl_readFrames.l0 k x acc n = some (r, p, e) →
  (e = 0 ∨ e = 8 ∨ e = 16) ∧ acc.length ≤ r.length ∧ (r.length = acc.length → p = n) ∧ ((∀ y ∈ acc, y.size ≤ x.size) → ∀ y ∈ r, y.size ≤ x.size) := by
 induction k with
 | zero => intro acc n r p e h; cases h
 | succ k ih =>
  intro acc n r p e h;simp only [impl_readFrames.l0] at h
  split at h
  ·split at h
   ·split at h
    ·obtain ⟨⟨b, c⟩, hb, h⟩ := Option.bind_eq_some_iff.mp h;obtain ⟨f1, f2⟩ := frameAt_fact _ _ _ _ hb
     have f3 : b.size ≤ x.size := by rw [ByteArray.size_extract] at f2; omega
     simp only at h
     split at h
     ·split at h
      ·obtain ⟨g1, g2, g3, g4⟩ := ih _ _ _ _ _ h;rw [List.length_append] at g2;simp only [List.length_cons, List.length_nil] at g2;refine ⟨g1, by omega, fun hh => absurd hh (by omega), fun ha => g4 fun y hy => ?_⟩
       rcases List.mem_append.1 hy with hy | hy
       ·exact ha y hy
       ·obtain rfl := List.mem_singleton.1 hy;exact f3
      ·cases h
     ·cases h
      exact ⟨f1, Nat.le_refl _, fun _ => rfl, fun ha => ha⟩
    ·cases h
   ·cases h
  ·cases h
   exact ⟨.inl rfl, Nat.le_refl _, fun _ => rfl, fun ha => ha⟩
theorem fr_both (x : ByteArray) (hx : x.size ≤ 3000) : ∃ (r : List ByteArray) (p e : Int), Ev (fun k => spec_l04Read.fr k x) (r, p, e) ∧ Ev (fun k => impl_readFrames.f k x) (r, p, e) ∧ r.length ≤ x.size ∧ (e = 0 ∨ e = 8 ∨ e = 16) ∧ (r.length = 0 → p = 0) ∧ ∀ y ∈ r, y.size ≤ x.size := by
 have hl := bytesOf_length x;obtain ⟨r, p, e, h1, h2, h3⟩ := frames_both (bytesOf x) (bytesOf_range x) (by omega) (bytesOf x).length 0 [] (by omega) (by omega) (by simp);rw [strOfNums_bytesOf] at h2;obtain ⟨K, hK⟩ := h2;obtain ⟨g1, g2, g3, g4⟩ := readFrames_fact x K [] 0 r p e (hK K (Nat.le_refl _));refine ⟨r, p, e, ?_, ⟨K, hK⟩, by omega, g1, fun h => g3 (by simp only [List.length_nil]; exact h), g4 (fun y hy => by cases hy)⟩
 unfold spec_l04Read.fr
 exact ev_if_pos (by omega) h1
theorem numberOf_from (x : ByteArray) (h : x.size ≤ 1048576) (d : Nat) : ∀ (i : Nat) (a : Int), i + d = x.size → ∃ v, Ev (fun k => impl_numberOf.l0 k x a (x.size : Int) (i : Int)) v := by
 induction d with
 | zero =>
  intro i a hi;refine ⟨a, ev_succ ?_⟩;simp only [impl_numberOf.l0];exact ev_if_neg (by omega) (ev_some _)
 | succ d ih =>
  intro i a hi
  have hw : wrap64 ((i : Int) + 1) = ((i + 1 : Nat) : Int) := by rw [wrap_in (by omega) (by omega)]; omega
  obtain ⟨v, hv⟩ := ih (i + 1) (wrap64 ((wrap64 (a * 256)) + (wrap64 (bt x (i : Int))))) (by omega);refine ⟨v, ev_succ ?_⟩;simp only [impl_numberOf.l0, hw];exact ev_if_pos (by omega) (ev_if_pos (by omega) (ev_if_pos (by omega) hv))
def numV (A B C D : Int) : Int := wrap64 (wrap64 (wrap64 (wrap64 (wrap64 (wrap64 (wrap64 (wrap64 (0 * 256) + wrap64 A) * 256) + wrap64 B) * 256) + wrap64 C) * 256) + wrap64 D)
theorem num_impl (x : ByteArray) (h : x.size = 4) : Ev (fun k => impl_numberOf.f k x) (numV (bt x 0) (bt x 1) (bt x 2) (bt x 3)) := by
 have w0 : wrap64 (0 + 1) = 1 := wrap_in (by omega) (by omega);have w1 : wrap64 (1 + 1) = 2 := wrap_in (by omega) (by omega);have w2 : wrap64 (2 + 1) = 3 := wrap_in (by omega) (by omega);have w3 : wrap64 (3 + 1) = 4 := wrap_in (by omega) (by omega)
 have hs : (x.size : Int) = 4 := by omega
 unfold impl_numberOf.f
 rw [hs];refine ev_succ ?_;simp only [impl_numberOf.l0, hs, w0];refine ev_if_pos (by omega) (ev_if_pos (by omega) (ev_if_pos (by omega) (ev_succ ?_)));simp only [impl_numberOf.l0, hs, w1];refine ev_if_pos (by omega) (ev_if_pos (by omega) (ev_if_pos (by omega) (ev_succ ?_)));simp only [impl_numberOf.l0, hs, w2];refine ev_if_pos (by omega) (ev_if_pos (by omega) (ev_if_pos (by omega) (ev_succ ?_)));simp only [impl_numberOf.l0, hs, w3];refine ev_if_pos (by omega) (ev_if_pos (by omega) (ev_if_pos (by omega) (ev_succ ?_)));simp only [impl_numberOf.l0];exact ev_if_neg (by omega) (ev_some _)
theorem num_spec (x : ByteArray) (h : x.size = 4) : spec_l04Read.num x = some (numV (bt x 0) (bt x 1) (bt x 2) (bt x 3)) := by
 have w0 : wrap64 (0 + 1) = 1 := wrap_in (by omega) (by omega);have w1 : wrap64 (1 + 1) = 2 := wrap_in (by omega) (by omega);have w2 : wrap64 (2 + 1) = 3 := wrap_in (by omega) (by omega);have w3 : wrap64 (3 + 1) = 4 := wrap_in (by omega) (by omega)
 have hl : ((bytesOf x).length : Int) = 4 := by rw [bytesOf_length]; omega
 have r0 := rd_bytesOf x 0;have r1 := rd_bytesOf x 1;have r2 := rd_bytesOf x 2;have r3 := rd_bytesOf x 3
 have hq : spec_l02Reader_number.f 10 (bytesOf x) 0 false 4 = some (numV (bt x 0) (bt x 1) (bt x 2) (bt x 3), 4, false) := by
  rw [← r0, ← r1, ← r2, ← r3];generalize bytesOf x = l at hl;clear r0 r1 r2 r3
  unfold spec_l02Reader_number.f
  rw [show (10 : Nat) = 5 + 1 + 1 + 1 + 1 + 1 from rfl];rw [spec_l02Reader_number.l0, if_pos (by omega), if_neg (by simp), if_neg (by omega), if_pos (by omega), if_pos (by omega), w0];rw [spec_l02Reader_number.l0, if_pos (by omega), if_neg (by simp), if_neg (by omega), if_pos (by omega), if_pos (by omega), w1];rw [spec_l02Reader_number.l0, if_pos (by omega), if_neg (by simp), if_neg (by omega), if_pos (by omega), if_pos (by omega), w2];rw [spec_l02Reader_number.l0, if_pos (by omega), if_neg (by simp), if_neg (by omega), if_pos (by omega), if_pos (by omega), w3];rw [spec_l02Reader_number.l0, if_neg (by omega)]
  rfl
 unfold spec_l04Read.num
 rw [if_pos h, hq]
 rfl
theorem num_both (x : ByteArray) (h : x.size ≤ 1048576) : ∃ v, Ev (fun k => impl_numberOf.f k x) v ∧ (x.size = 4 → spec_l04Read.num x = some v) := by
 by_cases h4 : x.size = 4
 ·exact ⟨_, num_impl x h4, fun _ => num_spec x h4⟩
 ·obtain ⟨v, hv⟩ := numberOf_from x h x.size 0 0 (by omega);exact ⟨v, hv, fun hh => absurd hh h4⟩
theorem disk_small (room : Int) (l : List S69) (hl : l.length ≤ 1048576) (hB : ∀ x ∈ l, x.f0.size ≤ 1048576 ∧ x.f1.size ≤ 1048576) (h : Ev (fun k => impl_DiskOK.f k room l) true) : ∀ x ∈ l, x.f1.size ≤ 3000 := by
 obtain ⟨K, h⟩ := h;obtain ⟨K2, h2⟩ := (used_same l room hl hB).2;replace h := h (K + K2 + 1) (by omega);replace h2 : impl_Disk_used.f (K + K2 + 1) room l = some (sizes l) := h2 (K + K2 + 1) (by omega)
 have jbad : ¬ impl_DiskOK.j0 (K + K2 + 1) true room l = some true := by
  simp only [impl_DiskOK.j0];rw [if_pos (by first | rfl | trivial)]
  simp
 simp only [impl_DiskOK.f, within_eq, Option.bind_some] at h
 have hz : sizes l ≤ 3000 := by
  by_cases c1 : 0 ≤ room ∧ room ≤ 3000
  ·rw [decide_eq_true c1, if_pos rfl] at h
   by_cases c2 : (l.length : Int) > 8
   ·rw [if_pos c2] at h; exact absurd h jbad
   ·rw [if_neg c2, h2, Option.bind_some] at h
    by_cases c3 : sizes l > room
    ·rw [decide_eq_true c3] at h; exact absurd h jbad
    ·omega
  ·rw [decide_eq_false c1, if_neg (by simp)] at h;exact absurd h jbad
 intro x hx;have := sizes_mem l x hx
 omega
theorem data_ev (room : Int) (l : List S69) (hr : Rising l) (hl : l.length ≤ 8) (p : Nat) (hp : p < l.length) (hs : segN (rd_T69 l (p : Int)).f0 > 0) : Ev (fun k => spec_l04Data.f k room l (segN (rd_T69 l (p : Int)).f0)) (rd_T69 l (p : Int)).f1 := by
 have hfind : Ev (fun k => spec_l03Find.f k room l (rd_T69 l (p : Int)).f0) (p : Int) := find_from l room _ (by omega) p hp rfl p 0 (by omega) (fun m hm he => by
  have hc := rising_less l hr (p - m - 1) m (by omega);rw [show m + (p - m - 1) + 1 = p by omega, (cmp_zero _ _).2 he] at hc
  omega)
 unfold spec_l04Data.f
 exact ev_bind (name_back _ hs) (ev_bind hfind (ev_if_pos (by omega) (ev_if_pos (by omega) (ev_some _))))
theorem read_loop (room : Int) (l : List S69) (hr : Rising l) (hl : l.length ≤ 8) (hB : ∀ x ∈ l, x.f1.size ≤ 3000) (sl : List S69) (hsl : sl.length ≤ 8) (hm : ∀ y ∈ sl, ∃ p : Nat, p < l.length ∧ y = rd_T69 l (p : Int) ∧ segN y.f0 > 0) (d : Nat) :
  ∀ (i : Nat) (first : Int) (recs names : List ByteArray) (torn last : Int), i + d = sl.length → names = (sl.take i).map (fun y => y.f0) → recs.length ≤ 3000 * i → (i = 0 ∧ last = 0 ∨ ∃ j : Nat, i = j + 1 ∧ last = segN (rd_T69 sl (j : Int)).f0) →
  ∃ (F : Int) (R N : List ByteArray) (T e : Int) (st : impl_walRead.St), Ev (fun k => spec_l04Read.l0 k (sl.map fun y => segN y.f0) (i : Int) room l first recs names torn) (F, R, N, T, e) ∧
   Ev (fun k => impl_walRead.run k sl d i ⟨first, recs, names, torn, last⟩) (st, e) ∧ (e = 0 → st.first = F ∧ st.recs = R ∧ st.names = N ∧ st.torn = T ∧ N = sl.map (fun y => y.f0)) ∧ R.length ≤ 24000 ∧ N.length ≤ 8 := by
 have hml : (sl.map fun y => segN y.f0).length = sl.length := List.length_map _
 induction d with
 | zero =>
  intro i first recs names torn last hi hnm hrc hla
  have hn : names.length = i := by rw [hnm, List.length_map, List.length_take]; omega
  have hfull : names = sl.map (fun y => y.f0) := by rw [hnm, List.take_of_length_le (by omega)]
  refine ⟨first, recs, names, torn, 0, ⟨first, recs, names, torn, last⟩, ev_succ ?_, ev_some _, fun _ => ⟨rfl, rfl, rfl, rfl, hfull⟩, by omega, by omega⟩;simp only [spec_l04Read.l0];exact ev_if_neg (by omega) (ev_some _)
 | succ d ih =>
  intro i first recs names torn last hi hnm hrc hla
  have hn : names.length = i := by rw [hnm, List.length_map, List.length_take]; omega
  have hlt : i < sl.length := by omega
  have hnext : names ++ [(rd_T69 sl (i : Int)).f0] = (sl.take (i + 1)).map (fun y => y.f0) := by
   rw [hnm, List.take_succ_eq_append_getElem hlt, List.map_append, rd_file sl i hlt]
   rfl
  clear hnm
  have h9 : i ≤ 9 := by omega
  have hw : wrap64 ((i : Int) + 1) = ((i + 1 : Nat) : Int) := by clear hla hrc hm hi; rw [wrap_in (by omega) (by omega)]; omega
  have hw1 : wrap64 ((i : Int) - 1) = (i : Int) - 1 := by clear hla hrc hm hi; exact wrap_in (by omega) (by omega)
  have hrdN : ∀ j : Nat, j < sl.length → rd (sl.map fun y => segN y.f0) (j : Int) = segN (rd_T69 sl (j : Int)).f0 := by
   intro j hj
   unfold rd
   rw [Int.toNat_natCast, List.getD_eq_getElem?_getD, List.getElem?_map, List.getElem?_eq_getElem hj, rd_file sl j hj]
   rfl
  have hx : rd_T69 sl (i : Int) ∈ sl := by rw [rd_file sl i hlt]; exact List.getElem_mem hlt
  obtain ⟨p, hp, hxp, hpos⟩ := hm _ hx
  have hsz : (rd_T69 sl (i : Int)).f1.size ≤ 3000 := by
   rw [hxp]
   apply hB
   rw [rd_file l p hp];exact List.getElem_mem hp
  have hdata : Ev (fun k => spec_l04Data.f k room l (rd (sl.map fun y => segN y.f0) (i : Int))) (rd_T69 sl (i : Int)).f1 := by
   rw [hrdN i hlt, hxp];exact data_ev room l hr hl p hp (by rw [← hxp]; exact hpos)
  have hname : Ev (fun k => spec_l04Name.f k (rd (sl.map fun y => segN y.f0) (i : Int))) (rd_T69 sl (i : Int)).f0 := by
   rw [hrdN i hlt];exact name_back _ hpos
  obtain ⟨r, used, code, hfs, hfi, hrl, hcode, hused, hall⟩ := fr_both _ hsz;obtain ⟨B, hBd⟩ : ∃ B : Bool, ((i : Int) == wrap64 ((sl.length : Int) - 1)) = B := ⟨_, rfl⟩
  have hBt : B = true → i + 1 = sl.length := by
   intro h;rw [h, beq_iff_eq, wrap_in (by omega) (by omega)] at hBd
   omega
  have hseg := segOf_eq (rd_T69 sl (i : Int)).f0;obtain ⟨n, hnn⟩ : ∃ n, segN (rd_T69 sl (i : Int)).f0 = n := ⟨_, rfl⟩;obtain ⟨x, hxx⟩ : ∃ x, rd_T69 sl (i : Int) = x := ⟨_, rfl⟩;rw [hnn] at hseg
  have hgap : (if (i : Int) > 0 then ((rd (sl.map fun y => segN y.f0) (i : Int)) != (wrap64 ((rd (sl.map fun y => segN y.f0) ((i : Int) - 1)) + 1))) else false) = decide (last > 0 ∧ n ≠ wrap64 (last + 1)) := by
   rcases hla with ⟨h1, h2⟩ | ⟨j, h1, h2⟩
   ·rw [if_neg (by omega)]
    symm
    exact decide_eq_false (by omega)
   ·have hj : rd_T69 sl (j : Int) ∈ sl := by rw [rd_file sl j (by omega)]; exact List.getElem_mem (by omega)
    obtain ⟨_, _, _, hpj⟩ := hm _ hj;rw [if_pos (by omega), hrdN i hlt, hnn, show (i : Int) - 1 = ((j : Nat) : Int) by omega, hrdN j (by omega), ← h2];rw [Bool.eq_iff_iff, bne_iff_ne, decide_eq_true_iff]
    constructor
    ·exact fun h => ⟨by omega, h⟩
    ·exact fun h => h.2
  rw [hxx] at hsz hdata hname hfs hfi hrl hall hseg hx hxp hnext;rw [hxx] at hnn;have HCODE := Aside0.mk hcode;have HBT := Aside0.mk hBt;clear hpos hla hcode hBt
  have spec1 : ∀ {Z}, Ev (fun k => spec_l04Read.j1 k (sl.map fun y => segN y.f0) (i : Int) x.f1 r used B (decide (code ≠ 0 ∧ ¬ (B = true ∧ code = 16))) room l first recs names torn) Z → Ev (fun k => spec_l04Read.l0 k (sl.map fun y => segN y.f0) (i : Int) room l first recs names torn) Z := by
   intro Z h;refine ev_succ ?_;simp only [spec_l04Read.l0, hml, hBd];refine ev_if_pos (by omega) (ev_if_pos (by omega) (ev_bind hdata (ev_bind hfs ?_)))
   rcases HCODE.out with hc | hc | hc <;> subst hc
   ·rw [decide_eq_false (by simp)] at h;exact ev_if_neg (by simp) (ev_if_neg (by simp) h)
   ·rw [decide_eq_true (by simp)] at h;exact ev_if_pos rfl h
   ·have hd : decide ((16 : Int) ≠ 0 ∧ ¬ (B = true ∧ (16 : Int) = 16)) = !B := by cases B <;> rfl
    rw [hd] at h;exact ev_if_neg (by simp) (ev_if_pos rfl h)
  have impl1 : ∀ {st : impl_walRead.St} {e : Int}, e ≠ 0 → Ev (fun k => impl_walRead.seg k ⟨first, recs, names, torn, last⟩ x B) (st, e) → Ev (fun k => impl_walRead.run k sl (d + 1) i ⟨first, recs, names, torn, last⟩) (⟨first, recs, names, torn, last⟩, e) := by
   intro st e he h;simp only [impl_walRead.run, hxx, hBd];exact ev_bind h (ev_if_neg he (ev_some _))
  have impl0 : ∀ {st : impl_walRead.St} {Z}, Ev (fun k => impl_walRead.seg k ⟨first, recs, names, torn, last⟩ x B) (st, 0) → Ev (fun k => impl_walRead.run k sl d (i + 1) st) Z → Ev (fun k => impl_walRead.run k sl (d + 1) i ⟨first, recs, names, torn, last⟩) Z := by
   intro st Z h h2;simp only [impl_walRead.run, hxx, hBd];exact ev_bind h (ev_if_pos rfl h2)
  by_cases c1 : code ≠ 0 ∧ ¬ (B = true ∧ code = 16)
  ·refine ⟨first, recs, names, torn, 8, ⟨first, recs, names, torn, last⟩, spec1 ?_, impl1 (st := ⟨first, recs, names, torn, last⟩) (by omega) ?_, fun h => absurd h (by omega), by omega, by omega⟩
   ·rw [decide_eq_true c1];refine ev_succ ?_;simp only [spec_l04Read.j1];exact ev_if_pos (by first | rfl | trivial) (ev_some _)
   ·unfold impl_walRead.seg
    refine ev_bind hfi ?_;rw [hseg];exact ev_if_pos c1 (ev_some _)
  ·have spec2 : ∀ {Z}, Ev (fun k => spec_l04Read.j2 k (sl.map fun y => segN y.f0) (i : Int) x.f1 r used B (decide (last > 0 ∧ n ≠ wrap64 (last + 1))) room l first recs names torn) Z → Ev (fun k => spec_l04Read.l0 k (sl.map fun y => segN y.f0) (i : Int) room l first recs names torn) Z := by
    intro Z h;refine spec1 ?_;rw [decide_eq_false c1];rw [← hgap] at h;refine ev_succ ?_;simp only [spec_l04Read.j1, hml, hw1];refine ev_if_neg (by simp) ?_
    by_cases h0 : (i : Int) > 0
    ·rw [if_pos h0] at h;exact ev_if_pos h0 (ev_if_pos (by omega) (ev_if_pos (by omega) (ev_if_pos (by omega) (ev_if_pos (by omega) h))))
    ·rw [if_neg h0] at h;exact ev_if_neg h0 h
   have seg2 : ∀ {Z}, Ev (fun k => if (last > 0 ∧ n ≠ wrap64 (last + 1)) ∨ (r.length = 0 ∧ B = false) then some ((⟨first, recs, names, torn, last⟩ : impl_walRead.St), (3 : Int))
    else if names.length < 1000000 then
     (if r.length = 0 then some ((⟨first, recs, names ++ [x.f0], wrap64 ((x.f1.size : Int) - used), n⟩ : impl_walRead.St), (0 : Int))
     else (impl_numberOf.f k (rdOf ByteArray.empty r 0)).bind fun q =>
      if (rdOf ByteArray.empty r 0).size ≠ 4 ∨ (names.length > 0 ∧ q ≠ wrap64 (first + (recs.length : Int))) then some ((⟨first, recs, names ++ [x.f0], wrap64 ((x.f1.size : Int) - used), n⟩ : impl_walRead.St), (3 : Int))
      else if recs.length + r.length < 1000000 then some ((⟨if names.length = 0 then q else first, recs ++ r.drop 1, names ++ [x.f0], wrap64 ((x.f1.size : Int) - used), n⟩ : impl_walRead.St), (0 : Int)) else none)
    else none) Z → Ev (fun k => impl_walRead.seg k ⟨first, recs, names, torn, last⟩ x B) Z := by
    intro Z h
    unfold impl_walRead.seg
    refine ev_bind hfi ?_;rw [hseg];exact ev_if_neg c1 h
   by_cases c2 : last > 0 ∧ n ≠ wrap64 (last + 1)
   ·refine ⟨first, recs, names, torn, 3, ⟨first, recs, names, torn, last⟩, spec2 ?_, impl1 (st := ⟨first, recs, names, torn, last⟩) (by omega) (seg2 (ev_if_pos (.inl c2) (ev_some _))), fun h => absurd h (by omega), by omega, by omega⟩;rw [decide_eq_true c2];refine ev_succ ?_;simp only [spec_l04Read.j2];exact ev_if_pos (by first | rfl | trivial) (ev_some _)
   ·rw [decide_eq_false c2] at spec2
    by_cases c3 : r.length = 0
    ·cases B with
     | false =>
      refine ⟨first, recs, names, torn, 3, ⟨first, recs, names, torn, last⟩, spec2 (ev_succ ?_), impl1 (st := ⟨first, recs, names, torn, last⟩) (by omega) (seg2 (ev_if_pos (.inr ⟨c3, rfl⟩) (ev_some _))), fun h => absurd h (by omega), by omega, by omega⟩;simp only [spec_l04Read.j2];exact ev_if_neg (by simp) (ev_if_pos (by omega) (ev_if_neg (by simp) (ev_some _)))
     | true =>
      have hd : d = 0 := by have := HBT.out rfl; omega
      subst hd
      have hu : wrap64 ((x.f1.size : Int) - used) = (x.f1.size : Int) := by rw [hused c3, wrap_in (by omega) (by omega)]; omega
      refine ⟨first, recs, names ++ [x.f0], (x.f1.size : Int), 0, ⟨first, recs, names ++ [x.f0], (x.f1.size : Int), n⟩, spec2 (ev_succ ?_), impl0 (st := ⟨first, recs, names ++ [x.f0], (x.f1.size : Int), n⟩) (seg2 (ev_if_neg (by rintro (h | h); exact c2 h; cases h.2) (ev_if_pos (by omega) (ev_if_pos c3 ?_)))) (ev_some _), fun _ => ⟨rfl, rfl, rfl, rfl, by rw [hnext, List.take_of_length_le (by have := HBT.out rfl; omega)]⟩, by omega, by simp; omega⟩
      ·simp only [spec_l04Read.j2];exact ev_if_neg (by simp) (ev_if_pos (by omega) (ev_if_pos (by first | rfl | trivial) (ev_if_pos (by omega) (ev_if_pos (by omega) (ev_bind hname (ev_if_pos (by omega) (ev_some _)))))))
      ·rw [hu];exact ev_some _
    ·have hr0 : rdOf ByteArray.empty r 0 ∈ r := by
      cases r with
      | nil => exact absurd rfl c3
      | cons a b => exact List.mem_cons_self
     obtain ⟨q, hq, hq4⟩ := num_both (rdOf ByteArray.empty r 0) (by have := hall _ hr0; omega)
     have c23 : ¬ ((last > 0 ∧ n ≠ wrap64 (last + 1)) ∨ (r.length = 0 ∧ B = false)) := by rintro (h | h); exact c2 h; exact c3 h.1
     by_cases c4 : (rdOf ByteArray.empty r 0).size = 4
     ·have hqs := hq4 c4;have hdl : (r.drop 1).length = r.length - 1 := List.length_drop
      have nextOK : ∀ f1 : Int, ∃ (F : Int) (R N : List ByteArray) (T e : Int) (st : impl_walRead.St), Ev (fun k => spec_l04Read.l0 k (sl.map fun y => segN y.f0) ((i + 1 : Nat) : Int) room l f1 (recs ++ r.drop 1) (names ++ [x.f0]) (wrap64 ((x.f1.size : Int) - used))) (F, R, N, T, e) ∧ Ev (fun k => impl_walRead.run k sl d (i + 1) ⟨f1, recs ++ r.drop 1, names ++ [x.f0], wrap64 ((x.f1.size : Int) - used), n⟩) (st, e) ∧ (e = 0 → st.first = F ∧ st.recs = R ∧ st.names = N ∧ st.torn = T ∧ N = sl.map (fun y => y.f0)) ∧ R.length ≤ 24000 ∧ N.length ≤ 8 := fun f1 => ih (i + 1) f1 (recs ++ r.drop 1) (names ++ [x.f0]) _ n (by omega) hnext (by rw [List.length_append]; omega) (.inr ⟨i, rfl, by rw [hxx]; exact hnn.symm⟩)
      have hrecs : recs.length + (r.drop 1).length < 8796093022208 := by omega
      by_cases c5 : i = 0
      ·obtain ⟨F, R, N, T, e, st, g1, g2, g3, g4, g5⟩ := nextOK q
       have hnm : names.length = 0 := by omega
       refine ⟨F, R, N, T, e, st, spec2 (ev_succ ?_), impl0 (st := ⟨q, recs ++ r.drop 1, names ++ [x.f0], wrap64 ((x.f1.size : Int) - used), n⟩) (seg2 (ev_if_neg c23 (ev_if_pos (by omega) (ev_if_neg c3 (ev_bind hq (ev_if_neg (by omega) (ev_if_pos (by omega) ?_))))))) g2, g3, g4, g5⟩
       ·simp only [spec_l04Read.j2, hml, hw];refine ev_if_neg (by simp) (ev_if_neg (by omega) (ev_if_pos (by omega) (ev_if_pos (by omega) ?_)));rw [hqs];exact ev_if_pos (by omega) (ev_if_pos (by omega) (ev_if_pos (by omega) (ev_bind hname (ev_if_pos (by omega) (ev_if_pos (by omega) (ev_if_pos hrecs g1))))))
       ·rw [if_pos hnm];exact ev_some _
      ·have hnm : ¬ names.length = 0 := by omega
       by_cases c6 : q = wrap64 (first + (recs.length : Int))
       ·obtain ⟨F, R, N, T, e, st, g1, g2, g3, g4, g5⟩ := nextOK first
        refine ⟨F, R, N, T, e, st, spec2 (ev_succ ?_), impl0 (st := ⟨first, recs ++ r.drop 1, names ++ [x.f0], wrap64 ((x.f1.size : Int) - used), n⟩) (seg2 (ev_if_neg c23 (ev_if_pos (by omega) (ev_if_neg c3 (ev_bind hq (ev_if_neg (by rintro (h | h); exact h c4; exact h.2 c6) (ev_if_pos (by omega) ?_))))))) g2, g3, g4, g5⟩
        ·simp only [spec_l04Read.j2, hml, hw];refine ev_if_neg (by simp) (ev_if_neg (by omega) (ev_if_pos (by omega) (ev_if_pos (by omega) ?_)));rw [hqs];exact ev_if_neg (by omega) (ev_if_pos c6 (ev_if_pos (by omega) (ev_if_pos (by omega) (ev_bind hname (ev_if_pos (by omega) (ev_if_pos (by omega) (ev_if_pos hrecs g1)))))))
        ·rw [if_neg hnm];exact ev_some _
       ·refine ⟨first, recs, names, torn, 3, ⟨first, recs, names, torn, last⟩, spec2 (ev_succ ?_), impl1 (st := ⟨first, recs, names ++ [x.f0], wrap64 ((x.f1.size : Int) - used), n⟩) (by omega) (seg2 (ev_if_neg c23 (ev_if_pos (by omega) (ev_if_neg c3 (ev_bind hq (ev_if_pos (.inr ⟨by omega, c6⟩) (ev_some _))))))), fun h => absurd h (by omega), by omega, by omega⟩;simp only [spec_l04Read.j2, hml, hw];refine ev_if_neg (by simp) (ev_if_neg (by omega) (ev_if_pos (by omega) (ev_if_pos (by omega) ?_)));rw [hqs];exact ev_if_neg (by omega) (ev_if_neg c6 (ev_some _))
     ·refine ⟨first, recs, names, torn, 3, ⟨first, recs, names, torn, last⟩, spec2 (ev_succ ?_), impl1 (st := ⟨first, recs, names ++ [x.f0], wrap64 ((x.f1.size : Int) - used), n⟩) (by omega) (seg2 (ev_if_neg c23 (ev_if_pos (by omega) (ev_if_neg c3 (ev_bind hq (ev_if_pos (.inl c4) (ev_some _))))))), fun h => absurd h (by omega), by omega, by omega⟩;simp only [spec_l04Read.j2];exact ev_if_neg (by simp) (ev_if_neg (by omega) (ev_if_pos (by omega) (ev_if_neg (by omega) (ev_some _))))
theorem read_both (room : Int) (l : List S69) (hr : Rising l) (hl : l.length ≤ 8) (hB : ∀ x ∈ l, x.f1.size ≤ 3000) :
  ∃ (F : Int) (R N : List ByteArray) (T e : Int), Ev (fun k => spec_l04Read.f k room l) (F, R, N, T, e) ∧ Ev (fun k => impl_walRead.f k room l) (if e = 0 then (F, R, N, T, 0) else (0, [], [], 0, e)) ∧ R.length ≤ 24000 ∧ N.length ≤ 8 ∧ (e = 0 → N = (segF l l.length 0).map fun y => y.f0) := by
 have h1 : Ev (fun k => spec_l04Segments.f k room l) ((segF l l.length 0).map fun y => segN y.f0) := segsS room l (by omega) l.length 0 [] (by omega) (by simp);have hsl := segF_length l l.length 0
 obtain ⟨F, R, N, T, e, st, g1, g2, g3, g4, g5⟩ := read_loop room l hr hl hB (segF l l.length 0) (by omega) (fun y hy => by
  obtain ⟨p, _, a, b, c⟩ := segF_mem l l.length 0 (by omega) y hy
  exact ⟨p, a, b, c⟩) (segF l l.length 0).length 0 0 [] [] 0 0 (by omega) (by simp) (by simp) (.inl ⟨rfl, rfl⟩)
 refine ⟨F, R, N, T, e, ?_, ?_, g4, g5, fun he => (g3 he).2.2.2.2⟩
 ·unfold spec_l04Read.f
  exact ev_bind h1 g1
 ·unfold impl_walRead.f
  refine ev_if_pos (by omega) ?_;simp only [segsI, List.nil_append, Option.bind_some];refine ev_bind g2 ?_
  by_cases he : e = 0
  ·obtain ⟨a, b, c, f, _⟩ := g3 he
   exact ev_of_eq fun k => by simp [he, a, b, c, f]
  ·exact ev_of_eq fun k => by simp [he]
def frameT (x : ByteArray) : ByteArray := strOfNums (frameL (bytesOf x))
def headT (n : Int) : ByteArray := strOfNums (frameL (BE n 4))
def nameT (n : Int) : ByteArray := strOfNums [115, 48 + n / 10, 48 + n % 10]
theorem frameT_size (x : ByteArray) : (frameT x).size = 6 + x.size := by
 unfold frameT
 rw [size_strOfNums, frameL_length, bytesOf_length]
theorem headT_size (n : Int) : (headT n).size = 10 := by
 unfold headT
 rw [size_strOfNums, frameL_length, BE_length]
theorem frame_impl (x : ByteArray) (h : x.size ≤ 1000000) : Ev (fun k => impl_frame.f k x) (frameT x) := by
 have := impl_frame_ev (bytesOf x) (bytesOf_range x) (by rw [bytesOf_length]; exact h);rw [strOfNums_bytesOf] at this;exact this
theorem frame_spec (x : ByteArray) (h : x.size ≤ 1000000) : Ev (fun k => spec_l04Plan.fr k x) (frameT x) := by
 unfold spec_l04Plan.fr
 exact ev_if_pos (by omega) (ev_bind (spec_frame_ev (bytesOf x) (bytesOf_range x) (by rw [bytesOf_length]; exact h)) (ev_some _))
theorem four_eq (n : Int) : spec_l02Four.f n = some (BE n 4) := by
 unfold spec_l02Four.f
 rw [BE4]
 congr 1
 have e1 : n / 16777216 = n / 256 / 256 / 256 := by omega
 have e2 : n / 65536 = n / 256 / 256 := by omega
 rw [e1, e2]
theorem head_spec (n : Int) : Ev (fun k => spec_l04Head.f k n) (headT n) := by
 unfold spec_l04Head.f
 rw [four_eq];exact ev_bind (ev_some _) (ev_bind (spec_frame_ev (BE n 4) (Bytes.be n 4) (by rw [BE_length]; omega)) (ev_some _))
theorem head_impl (n : Int) : Ev (fun k => impl_frame.f k (strOfNums (BE n 4))) (headT n) := impl_frame_ev (BE n 4) (Bytes.be n 4) (by rw [BE_length]; omega)
theorem name_spec (n : Int) (h0 : 0 ≤ n) (h9 : n ≤ 99) : Ev (fun k => spec_l04Name.f k n) (nameT n) := by
 have := segName_ev (n / 10) (n % 10) (by omega) (by omega) (by omega) (by omega);rw [show 10 * (n / 10) + n % 10 = n by omega] at this;exact this
theorem name_impl (n : Int) (h0 : 0 ≤ n) (h9 : n ≤ 99) : impl_segmentName.f n = some (nameT n) := by
 have h1 : (wrap64 (48 + wrap64 (Int.tdiv n 10))) % 256 = 48 + n / 10 := by
  rw [Int.tdiv_eq_ediv_of_nonneg h0, wrap_in (x := n / 10) (by omega) (by omega), wrap_in (by omega) (by omega)]
  omega
 have h2 : (wrap64 (48 + Int.tmod n 10)) % 256 = 48 + n % 10 := by
  rw [Int.tmod_eq_emod_of_nonneg h0, wrap_in (by omega) (by omega)]
  omega
 unfold impl_segmentName.f
 rw [h1, h2, Option.bind_some, if_pos (by rw [size_strOfNums]; simp)]
 unfold nameT
 show some ((strOfNums [115]) ++ strOfNums [48 + n / 10, 48 + n % 10]) = _
 rw [← strOfNums_append]
 rfl
theorem nameT_inj (a b : Int) (ha : 0 ≤ a ∧ a ≤ 99) (hb : 0 ≤ b ∧ b ≤ 99) (h : (nameT a).toList = (nameT b).toList) : a = b := by
 have h1 : nameT a = nameT b := by
  rw [ByteArray.toList_eq, ByteArray.toList_eq] at h;exact ByteArray.ext (Array.toList_inj.1 h)
 have h2 := congrArg bytesOf h1
 unfold nameT at h2
 rw [bytesOf_strOfNums _ (by simp; omega), bytesOf_strOfNums _ (by simp; omega)] at h2;simp only [List.cons.injEq] at h2
 omega
theorem name_of (x : ByteArray) (h : segN x > 0) : x = nameT (segN x) := ev_unique (name_back x h) (name_spec (segN x) (segN_range x).1 (segN_range x).2)
theorem ev_pos_of {α : Type} {c : Prop} [Decidable c] {f g : Nat → Option α} {r : α} (hc : c) (h : Ev (fun k => if c then f k else g k) r) : Ev f r := by
 obtain ⟨K, h⟩ := h;exact ⟨K, fun k hk => by have := h k hk; dsimp only at this; rwa [if_pos hc] at this⟩
theorem ev_neg_of {α : Type} {c : Prop} [Decidable c] {f g : Nat → Option α} {r : α} (hc : ¬ c) (h : Ev (fun k => if c then f k else g k) r) : Ev g r := by
 obtain ⟨K, h⟩ := h;exact ⟨K, fun k hk => by have := h k hk; dsimp only at this; rwa [if_neg hc] at this⟩
theorem nameT_size (n : Int) : (nameT n).size = 3 := by
 unfold nameT
 rw [size_strOfNums]
 rfl
theorem segN_size (x : ByteArray) (h : segN x > 0) : x.size = 3 := by
 unfold segN at h
 split at h
 ·rename_i hc
  exact hc.1
 ·omega
theorem toList_nil (x : ByteArray) (h : x.toList = ([] : List UInt8)) : x.size = 0 := by
 rw [ByteArray.toList_eq] at h
 show x.data.size = 0
 rw [← Array.length_toList, h]
 rfl
theorem plan_both (room : Int) (l : List S69) (hr : Rising l) (hl : l.length ≤ 8) (hB : ∀ x ∈ l, x.f1.size ≤ 3000) (data : ByteArray) (hd : data.size ≤ 110) (F : Int) (R N : List ByteArray) (T : Int)
  (hN : N = (segF l l.length 0).map fun y => y.f0) (h0 : segF l l.length 0 = [] → F = 0 ∧ R = []) (h99 : ∀ front y, segF l l.length 0 = front ++ [y] → segN y.f0 ≠ 99) :
  ∃ acts : List S61, Ev (fun k => spec_l04Plan.f k room l F R N T data) acts ∧ Ev (fun k => impl_plan.f k room l F R N T data) acts ∧ acts.length ≤ 2 ∧ ∀ x ∈ acts, x.f5 = [] := by
 have hsl := segF_length l l.length 0;have h1 : Ev (fun k => spec_l04Segments.f k room l) ((segF l l.length 0).map fun y => segN y.f0) := segsS room l (by omega) l.length 0 [] (by omega) (by simp);have hfs := frameT_size data;have hfi := frame_impl data (by omega);have hsp := frame_spec data (by omega);obtain ⟨next, hnx⟩ : ∃ n, Aside0 (wrap64 (F + (R.length : Int)) = n) := ⟨_, ⟨rfl⟩⟩;have hnum : Ev (fun k => impl_number.f k next 4) (strOfNums (BE next 4)) := number_ev next 4 (by omega);have hhs := headT_size next
 have him : ∀ {Z}, Ev (fun k => (impl_Wal_lastName.f F R N T).bind fun t311 => if t311.toList = ([] : List UInt8) then ((impl_segmentName.f 1).bind fun t315 => (some (([(⟨1, 0, t315, (⟨#[]⟩ : ByteArray), headT next ++ frameT data, ([] : List Int)⟩ : S61)] : List (S61))))) else ((impl_Disk_fileAt.f room l t311).bind fun bt319 => (if 0 ≤ bt319.1 then (if bt319.1 < (l.length : Int) then (if (((rd_T69 l bt319.1).f1).size : Int) = 0 then (some (([(⟨1, 0, t311, (⟨#[]⟩ : ByteArray), headT next ++ frameT data, ([] : List Int)⟩ : S61)] : List (S61)))) else (if (wrap64 ((((rd_T69 l bt319.1).f1).size : Int) + ((frameT data).size : Int))) > 160 then ((impl_segmentOf.f t311).bind fun t325 => ((impl_segmentName.f (wrap64 (t325 + 1))).bind fun t326 => (some (([(⟨2, 0, t311, (⟨#[]⟩ : ByteArray), (⟨#[]⟩ : ByteArray), ([] : List Int)⟩ : S61), (⟨1, 0, t326, (⟨#[]⟩ : ByteArray), headT next ++ frameT data, ([] : List Int)⟩ : S61)] : List (S61)))))) else (some (([(⟨1, 0, t311, (⟨#[]⟩ : ByteArray), frameT data, ([] : List Int)⟩ : S61)] : List (S61)))))) else (none)) else (none)))) Z →
   (∃ q, impl_Wal_lastName.f F R N T = some q) → Ev (fun k => impl_plan.f k room l F R N T data) Z := by
  intro Z h hq;obtain ⟨q, hq⟩ := hq
  have hnext : impl_Wal_next.f F R N T = some next := by
   unfold impl_Wal_next.f
   rw [hnx.out]
  unfold impl_plan.f
  rw [hq] at h ⊢;rw [hnext];simp only [Option.bind_some] at h ⊢;exact ev_bind hfi (ev_bind hnum (ev_bind (head_impl next) (ev_if_pos (by omega) h)))
 rcases List.eq_nil_or_concat (segF l l.length 0) with hnil | ⟨front, y, hcat⟩
 ·obtain ⟨rfl, rfl⟩ := h0 hnil;rw [hnil] at h1 hN
  have hn0 : next = 0 := by
   rw [← hnx.out];exact (wrap_in (by simp) (by simp)).trans (by simp)
  subst hn0;subst hN;refine ⟨[⟨1, 0, nameT 1, ⟨#[]⟩, headT 0 ++ frameT data, []⟩], ?_, him ?_ ⟨⟨#[]⟩, rfl⟩, by simp, by simp⟩
  ·unfold spec_l04Plan.f
   exact ev_bind hsp (ev_bind h1 (ev_if_pos rfl (ev_bind (name_spec 1 (by omega) (by omega)) (ev_bind (head_spec 0) (ev_if_pos (by omega) (ev_some _))))))
  ·have : impl_Wal_lastName.f 0 [] (List.map (fun y => y.f0) ([] : List S69)) T = some ⟨#[]⟩ := rfl;rw [this, name_impl 1 (by omega) (by omega)];simp only [Option.bind_some];exact ev_if_pos (by rw [ByteArray.toList_eq]) (ev_some _)
 ·rw [List.concat_eq_append] at hcat
  have hy : y ∈ segF l l.length 0 := by rw [hcat]; simp
  obtain ⟨p, _, hp, rfl, hpos⟩ := segF_mem l l.length 0 (by omega) y hy;have hn99 := h99 front _ hcat;have hrg := segN_range (rd_T69 l (p : Int)).f0;have hdata := data_ev room l hr hl p hp hpos;have hsz : (rd_T69 l (p : Int)).f1.size ≤ 3000 := hB _ (by rw [rd_file l p hp]; exact List.getElem_mem hp);rw [hcat] at h1 hN hsl;rw [List.length_append, List.length_singleton] at hsl
  have hlen : (((front ++ [rd_T69 l (p : Int)]).map fun y => segN y.f0).length : Int) = (front.length : Int) + 1 := by rw [List.length_map, List.length_append]; simp
  have hw : Aside0 (wrap64 ((((front ++ [rd_T69 l (p : Int)]).map fun y => segN y.f0).length : Int) - 1) = (front.length : Int)) := ⟨by
   rw [hlen, wrap_in (by omega) (by omega)]
   omega⟩
  have hrd : rd ((front ++ [rd_T69 l (p : Int)]).map fun y => segN y.f0) (front.length : Int) = segN (rd_T69 l (p : Int)).f0 := by
   unfold rd
   rw [Int.toNat_natCast, List.map_append, List.getD_eq_getElem?_getD, List.getElem?_append_right (by rw [List.length_map]; exact Nat.le_refl _)]
   simp
  have hNl : (N.length : Int) = (front.length : Int) + 1 := by rw [hN, List.length_map, List.length_append]; simp
  have hwN : Aside0 (wrap64 ((N.length : Int) - 1) = (front.length : Int)) := ⟨by rw [hNl, wrap_in (by omega) (by omega)]; omega⟩
  have hlast : impl_Wal_lastName.f F R N T = some (rd_T69 l (p : Int)).f0 := by
   unfold impl_Wal_lastName.f
   rw [if_neg (by omega), hwN.out, if_pos (by omega), if_pos (by omega)]
   congr 1
   unfold rdOf
   rw [hN, Int.toNat_natCast, List.map_append, List.getD_eq_getElem?_getD, List.getElem?_append_right (by rw [List.length_map]; exact Nat.le_refl _)]
   simp
  have hne : ¬ (rd_T69 l (p : Int)).f0.toList = ([] : List UInt8) := fun h => by
   have h2 := toList_nil _ h;have h3 := segN_size _ hpos
   omega
  have hat : ∃ b, impl_Disk_fileAt.f room l (rd_T69 l (p : Int)).f0 = some ((p : Int), b) := by
   obtain ⟨q, b, hf, hh⟩ := fileAt_some room l hr hl (rd_T69 l (p : Int)).f0
   rcases hh with ⟨rfl, hq, he, hne⟩ | ⟨rfl, hne⟩
   ·have hqp : q = p := by
     rcases Nat.lt_trichotomy q p with h | h | h
     ·have hc := rising_less l hr (p - q - 1) q (by omega);rw [show q + (p - q - 1) + 1 = p by omega, (cmp_zero _ _).2 he] at hc
      omega
     ·exact h
     ·exact absurd rfl (hne p h)
    subst hqp;exact ⟨_, hf⟩
   ·exact absurd rfl (hne p hp)
  obtain ⟨b, hat⟩ := hat;have hsf := segOf_eq (rd_T69 l (p : Int)).f0;have hnb := name_back _ hpos;generalize hx : rd_T69 l (p : Int) = x at *;have hw1 : Aside0 (wrap64 (segN x.f0 + 1) = segN x.f0 + 1) := ⟨wrap_in (by omega) (by omega)⟩;have hwf : Aside0 (wrap64 ((x.f1.size : Int) + ((frameT data).size : Int)) = (x.f1.size : Int) + 6 + (data.size : Int)) := ⟨by rw [hfs, wrap_in (by omega) (by omega)]; omega⟩;have hnmi := name_impl (segN x.f0 + 1) (by omega) (by omega);have hnms := name_spec (segN x.f0 + 1) (by omega) (by omega)
  have himp : ∀ {Z}, Ev (fun _ => if (x.f1.size : Int) = 0 then (some (([(⟨1, 0, x.f0, (⟨#[]⟩ : ByteArray), headT next ++ frameT data, ([] : List Int)⟩ : S61)] : List (S61)))) else (if (x.f1.size : Int) + 6 + (data.size : Int) > 160 then some ([(⟨2, 0, x.f0, (⟨#[]⟩ : ByteArray), (⟨#[]⟩ : ByteArray), ([] : List Int)⟩ : S61), (⟨1, 0, nameT (segN x.f0 + 1), (⟨#[]⟩ : ByteArray), headT next ++ frameT data, ([] : List Int)⟩ : S61)] : List (S61)) else some ([(⟨1, 0, x.f0, (⟨#[]⟩ : ByteArray), frameT data, ([] : List Int)⟩ : S61)] : List (S61)))) Z → Ev (fun k => impl_plan.f k room l F R N T data) Z := by
   intro Z h;refine him ?_ ⟨_, hlast⟩;simp only [hlast, Option.bind_some, hat, hx, hsf, hw1.out, hnmi, hwf.out];exact ev_if_neg hne (ev_if_pos (by omega) (ev_if_pos (by omega) h))
  have hspc : ∀ {Z}, Ev (fun k => if (x.f1.size : Int) = 0 then (spec_l04Plan.j0 k (headT next ++ frameT data) (segN x.f0) x.f1 F R N T) else (spec_l04Plan.j0 k (frameT data) (segN x.f0) x.f1 F R N T)) Z → Ev (fun k => spec_l04Plan.f k room l F R N T data) Z := by
   intro Z h
   unfold spec_l04Plan.f
   refine ev_bind hsp (ev_bind h1 (ev_if_neg (by rw [hlen]; omega) ?_));simp only [hw.out, hrd];refine ev_if_pos (by omega) (ev_if_pos (by rw [hlen]; omega) (ev_bind hdata ?_))
   by_cases hz : (x.f1.size : Int) = 0
   ·refine ev_if_pos hz ?_;rw [hnx.out];refine ev_bind (head_spec next) (ev_if_pos (by omega) ?_);exact ev_pos_of hz h
   ·refine ev_if_neg hz ?_;exact ev_neg_of hz h
  by_cases hz : (x.f1.size : Int) = 0
  ·refine ⟨[⟨1, 0, x.f0, ⟨#[]⟩, headT next ++ frameT data, []⟩], hspc (ev_if_pos hz (ev_succ ?_)), himp (ev_if_pos hz (ev_some _)), by simp, by simp⟩
   have hwz : Aside0 (wrap64 ((x.f1.size : Int) + ((headT next ++ frameT data).size : Int)) = 16 + (data.size : Int)) := ⟨by
    rw [ByteArray.size_append, hhs, hfs, wrap_in (by omega) (by omega)]
    omega⟩
   simp only [spec_l04Plan.j0, hwz.out];exact ev_if_pos (by omega) (ev_bind hnb (ev_some _))
  ·by_cases hbig : (x.f1.size : Int) + 6 + (data.size : Int) > 160
   ·refine ⟨_, hspc (ev_if_neg hz (ev_succ ?_)), himp (ev_if_neg hz (ev_if_pos hbig (ev_some _))), by simp, by simp⟩;simp only [spec_l04Plan.j0, hwf.out, hw1.out, hnx.out];exact ev_if_neg (by omega) (ev_bind hnb (ev_bind hnms (ev_bind (head_spec next) (ev_if_pos (by omega) (ev_some _)))))
   ·refine ⟨_, hspc (ev_if_neg hz (ev_succ ?_)), himp (ev_if_neg hz (ev_if_neg hbig (ev_some _))), by simp, by simp⟩;simp only [spec_l04Plan.j0, hwf.out];exact ev_if_pos (by omega) (ev_bind hnb (ev_some _))
theorem markText_from (n : Nat) : ∀ (x : Int) (acc : ByteArray), x.toNat ≤ n → acc.size + n ≤ 4000000000 → ∃ t : ByteArray, Ev (fun k => laws_markText.l0 k x acc) t := by
 induction n with
 | zero =>
  intro x acc hx ha;refine ⟨(⟨#[109]⟩ : ByteArray) ++ acc, ev_succ ?_⟩;simp only [laws_markText.l0];exact ev_if_neg (by omega) (ev_if_pos (by omega) (ev_some _))
 | succ n ih =>
  intro x acc hx ha
  by_cases hp : x > 0
  ·have hw : Aside0 (wrap64 (Int.tdiv x 10) = x / 10 ∨ ¬ x ≤ 9223372036854775807) := ⟨by
    rw [Int.tdiv_eq_ediv_of_nonneg (by omega)]
    by_cases h : x ≤ 9223372036854775807
    ·exact .inl (wrap_in (by omega) (by omega))
    ·exact .inr h⟩
   rcases hw.out with hq | hq
   ·have hsz : (strOfNums [(wrap64 (48 + (Int.tmod x 10))) % 256]).size = 1 := size_strOfNums _;obtain ⟨t, ht⟩ := ih (x / 10) (strOfNums [(wrap64 (48 + (Int.tmod x 10))) % 256] ++ acc) (by omega) (by rw [ByteArray.size_append, hsz]; omega);refine ⟨t, ev_succ ?_⟩;simp only [laws_markText.l0, Option.bind_some, hq];exact ev_if_pos hp (ev_if_pos (by omega) ht)
   ·exfalso; omega
  ·refine ⟨(⟨#[109]⟩ : ByteArray) ++ acc, ev_succ ?_⟩;simp only [laws_markText.l0];exact ev_if_neg hp (ev_if_pos (by omega) (ev_some _))
theorem markText_ex (x : Int) (hx : x ≤ 1000000000) : ∃ t : ByteArray, Ev (fun k => laws_markText.f k x) t := by
 unfold laws_markText.f
 by_cases h : x ≤ 0
 ·exact ⟨_, ev_if_pos h (ev_some _)⟩
 ·obtain ⟨t, ht⟩ := markText_from x.toNat x ⟨#[]⟩ (by omega) (by show 0 + _ ≤ _; omega);exact ⟨t, ev_if_neg h ht⟩
open Classical in
noncomputable def markT (x : Int) : ByteArray := if h : ∃ t : ByteArray, Ev (fun k => laws_markText.f k x) t then h.choose else ⟨#[]⟩
theorem markText_ev (x : Int) (hx : x ≤ 1000000000) : Ev (fun k => laws_markText.f k x) (markT x) := by
 unfold markT
 rw [dif_pos (markText_ex x hx)];exact (markText_ex x hx).choose_spec
noncomputable def marksF (n : Nat) : List S69 := (List.range n).map fun i => (⟨markT (3 * ((i : Nat) : Int) + 1), markT (3 * ((i : Nat) : Int) + 2), 3 * ((i : Nat) : Int) + 3⟩ : S69)
theorem marksF_length (n : Nat) : (marksF n).length = n := by simp [marksF]
theorem marksF_rd (n i : Nat) (h : i < n) : rd_T69 (marksF n) (i : Int) = (⟨markT (3 * (i : Int) + 1), markT (3 * (i : Int) + 2), 3 * (i : Int) + 3⟩ : S69) := by
 unfold rd_T69 marksF
 rw [Int.toNat_natCast, List.getD_eq_getElem?_getD, List.getElem?_map, List.getElem?_range h]
 rfl
theorem rdF_get (x : List S69) (i : Nat) (h : i < x.length) (v : S69) : rd_T69 (x.set i v) (i : Int) = v := by
 unfold rd_T69
 rw [Int.toNat_natCast, List.getD_eq_getElem?_getD, List.getElem?_set_self h, Option.getD_some]
theorem markFileS_from (n d : Nat) (hn : n ≤ 10000000) : ∀ (i : Nat) (x : List S69), i + d = n → x.length = n → (∀ j, j < i → x[j]? = (marksF n)[j]?) → Ev (fun k => laws_markFileS.l0 k x (3 * (i : Int) + 1) (i : Int)) (3 * (n : Int) + 1, marksF n) := by
 have hml := marksF_length n
 induction d with
 | zero =>
  intro i x hi hx h;refine ev_succ ?_;simp only [laws_markFileS.l0];rw [show x = marksF n from copy_end (marksF n) x (by rw [hml]; exact hx) (fun j hj => h j (by rw [hml] at hj; omega)), show (i : Int) = (n : Int) from by omega];exact ev_if_neg (by rw [hml]; omega) (ev_some _)
 | succ d ih =>
  intro i x hi hx h;have hrd := marksF_rd n i (by omega)
  have hget : (marksF n).getD i z69 = (⟨markT (3 * (i : Int) + 1), markT (3 * (i : Int) + 2), 3 * (i : Int) + 3⟩ : S69) := by
   unfold marksF
   rw [List.getD_eq_getElem?_getD, List.getElem?_map, List.getElem?_range (by omega)]
   rfl
  obtain ⟨hs1, hs2⟩ := copy_step (marksF n) x i z69 (by rw [hml]; exact hx) (by rw [hml]; omega) h;rw [hget] at hs1 hs2;rw [hml] at hs1;have := ih (i + 1) _ (by omega) hs1 hs2;have w1 : Aside0 (wrap64 (3 * (i : Int) + 1 + 1) = 3 * (i : Int) + 2) := ⟨(wrap_in (by omega) (by omega)).trans (by omega)⟩;have w2 : Aside0 (wrap64 (3 * (i : Int) + 2 + 1) = 3 * (i : Int) + 3) := ⟨(wrap_in (by omega) (by omega)).trans (by omega)⟩;have w4 : Aside0 (wrap64 (3 * (i : Int) + 3 + 1) = 3 * ((i + 1 : Nat) : Int) + 1) := ⟨(wrap_in (by omega) (by omega)).trans (by omega)⟩;have w3 : Aside0 (wrap64 ((i : Int) + 1) = ((i + 1 : Nat) : Int)) := ⟨(wrap_in (by omega) (by omega)).trans (by omega)⟩;refine ev_succ ?_;simp only [laws_markFileS.l0, w1.out, w2.out, w3.out, w4.out, Int.toNat_natCast, Option.bind_some, rdF_get x i (by omega), List.set_set];exact ev_if_pos (by omega) (ev_bind (markText_ev _ (by omega)) (ev_if_pos (by omega) (ev_bind (markText_ev _ (by omega)) this)))
theorem markFileS_ev (l : List S69) (hl : l.length ≤ 10000000) : Ev (fun k => laws_markFileS.f k l 1) (3 * (l.length : Int) + 1, marksF l.length) := by
 unfold laws_markFileS.f
 exact markFileS_from l.length l.length hl 0 l (by omega) rfl (fun j hj => absurd hj (by omega))
noncomputable def markP (i : Nat) : S61 := ⟨5 * (i : Int) + 1, 5 * (i : Int) + 2, markT (5 * (i : Int) + 3), markT (5 * (i : Int) + 4), markT (5 * (i : Int) + 5), []⟩
noncomputable def marksP (n : Nat) : List S61 := (List.range n).map markP
theorem marksP_length (n : Nat) : (marksP n).length = n := by simp [marksP]
theorem marksP_get (n i : Nat) (h : i < n) : (marksP n).getD i z61 = markP i := by
 unfold marksP
 rw [List.getD_eq_getElem?_getD, List.getElem?_map, List.getElem?_range h]
 rfl
theorem marksP_rd (n i : Nat) (h : i < n) : rd_T61 (marksP n) (i : Int) = markP i := by
 unfold rd_T61
 rw [Int.toNat_natCast];exact marksP_get n i h
theorem wraps5 (a : Int) (h0 : 0 ≤ a) (h1 : a ≤ 1000000000) : Aside0 (wrap64 (a + 1) = a + 1) ∧ Aside0 (wrap64 (a + 1 + 1) = a + 2) ∧ Aside0 (wrap64 (a + 2 + 1) = a + 3) ∧ Aside0 (wrap64 (a + 3 + 1) = a + 4) ∧ Aside0 (wrap64 (a + 4 + 1) = a + 5) :=
 ⟨⟨wrap_in (by omega) (by omega)⟩, ⟨(wrap_in (by omega) (by omega)).trans (by omega)⟩, ⟨(wrap_in (by omega) (by omega)).trans (by omega)⟩, ⟨(wrap_in (by omega) (by omega)).trans (by omega)⟩, ⟨(wrap_in (by omega) (by omega)).trans (by omega)⟩⟩
theorem markActS_from (n d : Nat) (hn : n ≤ 1000000) : ∀ (i : Nat) (x : List S61), i + d = n → x.length = n → (∀ j, j < i → x[j]? = (marksP n)[j]?) → (∀ j : Nat, i ≤ j → j < n → (rd_T61 x (j : Int)).f5 = []) → Ev (fun k => laws_markFileActS.l0 k x (5 * (i : Int) + 1) (i : Int)) (5 * (n : Int) + 1, marksP n) := by
 have hml := marksP_length n
 induction d with
 | zero =>
  intro i x hi hx h hk;refine ev_succ ?_;simp only [laws_markFileActS.l0];rw [show x = marksP n from copy_end (marksP n) x (by rw [hml]; exact hx) (fun j hj => h j (by rw [hml] at hj; omega)), show (i : Int) = (n : Int) from by omega];exact ev_if_neg (by rw [hml]; omega) (ev_some _)
 | succ d ih =>
  intro i x hi hx h hk;have h5 := hk i (Nat.le_refl _) (by omega);have hget := marksP_get n i (by omega);obtain ⟨hs1, hs2⟩ := copy_step (marksP n) x i z61 (by rw [hml]; exact hx) (by rw [hml]; omega) h;rw [hget] at hs1 hs2;rw [hml] at hs1
  have := ih (i + 1) (x.set i (markP i)) (by omega) hs1 hs2 (fun j h1 h2 => by
   have := hk j (by omega) h2
   unfold rd_T61 at this ⊢
   rw [Int.toNat_natCast, List.getD_eq_getElem?_getD] at this ⊢;rw [List.getElem?_set_ne (by omega)]
   exact this)
  obtain ⟨w1, w2, w3, w4, w5⟩ := wraps5 (5 * (i : Int) + 1) (by omega) (by omega);have w6 : Aside0 (wrap64 ((i : Int) + 1) = ((i + 1 : Nat) : Int)) := ⟨by rw [wrap_in (by omega) (by omega)]; omega⟩
  have e1 : 5 * ((i + 1 : Nat) : Int) + 1 = 5 * (i : Int) + 1 + 5 := by omega
  rw [e1] at this
  have m3 : 5 * (i : Int) + 3 = 5 * (i : Int) + 1 + 2 := by omega
  have m4 : 5 * (i : Int) + 4 = 5 * (i : Int) + 1 + 3 := by omega
  have m5 : 5 * (i : Int) + 5 = 5 * (i : Int) + 1 + 4 := by omega
  have m2 : 5 * (i : Int) + 2 = 5 * (i : Int) + 1 + 1 := by omega
  unfold markP at this
  rw [m3, m4, m5, m2] at this
  have b1 : 5 * (i : Int) + 1 + 4 ≤ 1000000000 := by omega
  have hlt : (i : Int) < (x.length : Int) := by omega
  have hi0 : (0 : Int) ≤ (i : Int) := by omega
  clear m2 m3 m4 m5 e1 hget hs1 hs2 ih h hk hml hi hx;generalize 5 * (i : Int) + 1 = a at w1 w2 w3 w4 w5 b1 this ⊢;refine ev_succ ?_;simp only [laws_markFileActS.l0, w1.out, w2.out, w3.out, w4.out, w5.out, w6.out, Int.toNat_natCast];exact ev_if_pos hlt (ev_if_pos hi0 (ev_if_pos h5 (ev_bind (markText_ev _ (by omega)) (ev_bind (markText_ev _ (by omega)) (ev_bind (markText_ev _ (by omega)) this)))))
theorem markActS_ev (l : List S61) (hl : l.length ≤ 1000000) (hk : ∀ x ∈ l, x.f5 = []) : Ev (fun k => laws_markFileActS.f k l 1) (5 * (l.length : Int) + 1, marksP l.length) := by
 unfold laws_markFileActS.f
 refine markActS_from l.length l.length hl 0 l (by omega) rfl (fun j hj => absurd hj (by omega)) (fun j _ hj => hk _ ?_)
 unfold rd_T61
 rw [Int.toNat_natCast, List.getD_eq_getElem?_getD, List.getElem?_eq_getElem hj, Option.getD_some];exact List.getElem_mem hj
theorem heldNil_ev (a : Int) : Ev (fun k => laws_heldIntS.f k [] a) a := by
 unfold laws_heldIntS.f
 refine ev_succ ?_;simp only [laws_heldIntS.l0];exact ev_if_neg (by simp) (ev_some _)
theorem heldActS_from (n d : Nat) (hn : n ≤ 1000000) : ∀ i : Nat, i + d = n → Ev (fun k => laws_heldFileActS.l0 k (marksP n) (5 * (i : Int) + 1) (i : Int)) (5 * (n : Int) + 1) := by
 have hml := marksP_length n
 induction d with
 | zero =>
  intro i hi;refine ev_succ ?_;simp only [laws_heldFileActS.l0];rw [show (i : Int) = (n : Int) from by omega];exact ev_if_neg (by rw [hml]; omega) (ev_some _)
 | succ d ih =>
  intro i hi;have := ih (i + 1) (by omega);have hrd := marksP_rd n i (by omega);obtain ⟨w1, w2, w3, w4, w5⟩ := wraps5 (5 * (i : Int) + 1) (by omega) (by omega);have w6 : Aside0 (wrap64 ((i : Int) + 1) = ((i + 1 : Nat) : Int)) := ⟨by rw [wrap_in (by omega) (by omega)]; omega⟩
  have e1 : 5 * ((i + 1 : Nat) : Int) + 1 = 5 * (i : Int) + 1 + 5 := by omega
  rw [e1] at this
  have m3 : 5 * (i : Int) + 3 = 5 * (i : Int) + 1 + 2 := by omega
  have m4 : 5 * (i : Int) + 4 = 5 * (i : Int) + 1 + 3 := by omega
  have m5 : 5 * (i : Int) + 5 = 5 * (i : Int) + 1 + 4 := by omega
  have m2 : 5 * (i : Int) + 2 = 5 * (i : Int) + 1 + 1 := by omega
  unfold markP at hrd
  rw [m3, m4, m5, m2] at hrd
  have b0 : 0 ≤ 5 * (i : Int) + 1 := by omega
  have b1 : 5 * (i : Int) + 1 + 4 ≤ 1000000000 := by omega
  have hlt : (i : Int) < ((marksP n).length : Int) := by omega
  have hi0 : (0 : Int) ≤ (i : Int) := by omega
  clear m2 m3 m4 m5 e1 ih hml hi;generalize 5 * (i : Int) + 1 = a at w1 w2 w3 w4 w5 b0 b1 this hrd ⊢;refine ev_succ ?_;simp only [laws_heldFileActS.l0, w1.out, w2.out, w3.out, w4.out, w5.out, w6.out, hrd];exact ev_if_pos hlt (ev_if_pos hi0 (ev_if_pos (by first | rfl | trivial) (ev_if_pos (by first | rfl | trivial) (ev_bind (markText_ev _ (by omega)) (ev_if_pos (by first | rfl | trivial) (ev_bind (markText_ev _ (by omega)) (ev_if_pos (by first | rfl | trivial) (ev_bind (markText_ev _ (by omega)) (ev_if_pos (by first | rfl | trivial) (ev_bind (heldNil_ev _) (ev_if_neg (by omega) this)))))))))))
theorem heldActS_ev (n : Nat) (hn : n ≤ 1000000) : Ev (fun k => laws_heldFileActS.f k (marksP n) 1) (5 * (n : Int) + 1) := by
 unfold laws_heldFileActS.f
 exact heldActS_from n n hn 0 (by omega)
theorem eqNil_ev : Ev (fun k => laws_eqIntS.f k [] []) true := by
 unfold laws_eqIntS.f
 refine ev_if_pos rfl (ev_succ ?_);simp only [laws_eqIntS.l0];exact ev_if_neg (by simp) (ev_some _)
theorem eqActS_from (l : List S61) (hl : l.length ≤ 1000000) (hk : ∀ j : Nat, j < l.length → (rd_T61 l (j : Int)).f5 = []) (d : Nat) : ∀ i : Nat, i + d = l.length → Ev (fun k => laws_eqFileActS.l0 k l l (i : Int)) true := by
 induction d with
 | zero =>
  intro i hi;refine ev_succ ?_;simp only [laws_eqFileActS.l0];exact ev_if_neg (by omega) (ev_some _)
 | succ d ih =>
  intro i hi;have := ih (i + 1) (by omega);have h5 := hk i (by omega);have w6 : Aside0 (wrap64 ((i : Int) + 1) = ((i + 1 : Nat) : Int)) := ⟨by rw [wrap_in (by omega) (by omega)]; omega⟩;refine ev_succ ?_;simp only [laws_eqFileActS.l0, w6.out, h5];refine ev_if_pos (by omega) (ev_if_pos (by omega) (ev_if_pos (by omega) (ev_bind (a := true) ?_ (ev_if_pos rfl this))))
  unfold laws_eqFileAct.f
  exact ev_if_pos rfl (ev_if_pos rfl (ev_if_pos rfl (ev_if_pos rfl (ev_if_pos rfl (ev_bind eqNil_ev (ev_if_pos rfl (ev_some _)))))))
theorem eqActS_ev (l : List S61) (hl : l.length ≤ 1000000) (hk : ∀ x ∈ l, x.f5 = []) : Ev (fun k => laws_eqFileActS.f k l l) true := by
 unfold laws_eqFileActS.f
 refine ev_if_pos rfl (eqActS_from l hl (fun j hj => hk _ ?_) l.length 0 (by omega))
 unfold rd_T61
 rw [Int.toNat_natCast, List.getD_eq_getElem?_getD, List.getElem?_eq_getElem hj, Option.getD_some];exact List.getElem_mem hj
theorem empty_log (room : Int) (l : List S69) (hl : l.length ≤ 8) (h : segF l l.length 0 = []) : Ev (fun k => spec_l04Read.f k room l) (0, [], [], 0, 0) := by
 have h1 : Ev (fun k => spec_l04Segments.f k room l) ((segF l l.length 0).map fun y => segN y.f0) := segsS room l (by omega) l.length 0 [] (by omega) (by simp);rw [h] at h1
 unfold spec_l04Read.f
 refine ev_bind h1 (ev_succ ?_);simp only [spec_l04Read.l0];exact ev_if_neg (by simp) (ev_some _)
theorem plan_answer (room : Int) (l : List S69) (data : ByteArray) (hl : l.length ≤ 1048576) (hB : ∀ x ∈ l, x.f0.size ≤ 1048576 ∧ x.f1.size ≤ 1048576) :
  ∃ (acts : List S61) (e : Int), Ev (fun k => spec_WalPlan.f k room l data) (acts, e) ∧ Ev (fun k => impl_WalPlan.f k room l data) (acts, e) ∧ acts.length ≤ 2 ∧ ∀ x ∈ acts, x.f5 = [] := by
 obtain ⟨b, h1, h2⟩ := disk_same room l hl hB
 have ht : impl_isText.f [data] = some (!decide ((data.size : Int) > 65536)) := by
  unfold impl_isText.f impl_isText.p
  simp only [List.any_cons, List.any_nil, Bool.or_false]
 unfold spec_WalPlan.f impl_WalPlan.f
 rw [ht];simp only [Option.bind_some]
 by_cases hx : (data.size : Int) > 65536
 ·exact ⟨[], 2, ev_if_pos hx (ev_some _), ev_if_neg (by simp [hx]) (ev_some _), by simp, by simp⟩
 have himp : (!decide ((data.size : Int) > 65536)) = true := by rw [decide_eq_false hx]; rfl
 have hck : ∀ {w : Int × List ByteArray × List ByteArray × Int × Int} {Z}, Ev (fun k => spec_l04Check.f k room l data) w → Ev (fun k => if w.2.2.2.2 = 0 then ((spec_l04Plan.f k room l w.1 w.2.1 w.2.2.1 w.2.2.2.1 data).bind fun t264 => (some (t264, (0 : Int)))) else (some ((([] : List (S61))), w.2.2.2.2))) Z →
   Ev (fun k => if (data.size : Int) > 65536 then (some ((([] : List (S61))), 2)) else ((spec_l04Check.f k room l data).bind fun bt254 => (if bt254.2.2.2.2 = 0 then ((spec_l04Plan.f k room l bt254.1 bt254.2.1 bt254.2.2.1 bt254.2.2.2.1 data).bind fun t264 => (some (t264, 0))) else (some ((([] : List (S61))), bt254.2.2.2.2))))) Z := by
  intro w Z a b;exact ev_if_neg hx (ev_bind a b)
 cases b with
 | false =>
  refine ⟨[], 1, hck (w := (0, [], [], 0, 1)) ?_ (ev_if_neg (by simp) (ev_some _)), ev_if_pos himp (ev_bind h2 (ev_if_neg (by simp) (ev_some _))), by simp, by simp⟩
  unfold spec_l04Check.f
  exact ev_if_neg hx (ev_bind h1 (ev_if_neg (by simp) (ev_some _)))
 | true =>
  obtain ⟨hr, h8⟩ := disk_rising room l hl h2;have hB3 := disk_small room l hl hB h2;obtain ⟨B, hBd⟩ : ∃ B : Bool, decide (1 ≤ (data.size : Int) ∧ (data.size : Int) ≤ 110) = B := ⟨_, rfl⟩
  have hin : spec_l01In.f (data.size : Int) 1 110 = some B := by rw [in_eq, hBd]
  have hwi : impl_within.f (data.size : Int) 1 110 = some B := by rw [within_eq, hBd]
  have hi1 : ∀ {Z}, Ev (fun k => impl_walPlan.f k room l data) Z → Ev (fun k => (if (!decide ((data.size : Int) > 65536)) = true then ((impl_DiskOK.f k room l).bind fun t355 => (if t355 = true then ((impl_walPlan.f k room l data).bind fun bt356 => (some (bt356.1, bt356.2))) else (some (([] : List (S61)), 1)))) else (some (([] : List (S61)), 2)))) Z := by
   intro Z h;exact ev_if_pos himp (ev_bind h2 (ev_if_pos rfl (ev_bind h (ev_some _))))
  cases B with
  | false =>
   refine ⟨[], 4, hck (w := (0, [], [], 0, 4)) ?_ (ev_if_neg (by simp) (ev_some _)), hi1 ?_, by simp, by simp⟩
   ·unfold spec_l04Check.f
    rw [hin];exact ev_if_neg hx (ev_bind h1 (ev_if_pos rfl (ev_bind (ev_some _) (ev_if_neg (by simp) (ev_some _)))))
   ·unfold impl_walPlan.f
    rw [hwi];exact ev_bind (ev_some _) (ev_if_neg (by simp) (ev_some _))
  | true =>
   have hd := of_decide_eq_true hBd;obtain ⟨F, R, N, T, e, g1, g2, g3, g4, g5⟩ := read_both room l hr h8 hB3;have hseg : Ev (fun k => spec_l04Segments.f k room l) ((segF l l.length 0).map fun y => segN y.f0) := segsS room l (by omega) l.length 0 [] (by omega) (by simp);have hsl := segF_length l l.length 0
   have j6 : Ev (fun k => spec_l04Check.j0 k true F R N T) (F, R, N, T, 6) := by
    refine ev_succ ?_;simp only [spec_l04Check.j0];exact ev_if_pos trivial (ev_some _)
   have j0f : Ev (fun k => spec_l04Check.j0 k false F R N T) (F, R, N, T, 0) := by
    refine ev_succ ?_;simp only [spec_l04Check.j0];exact ev_if_neg (by simp) (ev_some _)
   have hc1 : ∀ {Z}, Ev (fun k => (if e = 0 then (if T > 0 then (some (F, R, N, T, (16 : Int))) else (if (R.length : Int) ≥ 60 then (spec_l04Check.j0 k true F R N T) else (if (((segF l l.length 0).map fun y => segN y.f0).length : Int) > 0 then (if 0 ≤ (wrap64 ((((segF l l.length 0).map fun y => segN y.f0).length : Int) - 1)) then (if (wrap64 ((((segF l l.length 0).map fun y => segN y.f0).length : Int) - 1)) < (((segF l l.length 0).map fun y => segN y.f0).length : Int) then (spec_l04Check.j0 k ((rd ((segF l l.length 0).map fun y => segN y.f0) (wrap64 ((((segF l l.length 0).map fun y => segN y.f0).length : Int) - 1))) == 99) F R N T) else (none)) else (none)) else (spec_l04Check.j0 k false F R N T)))) else (some (F, R, N, T, e)))) Z → Ev (fun k => spec_l04Check.f k room l data) Z := by
    intro Z h
    unfold spec_l04Check.f
    rw [hin];exact ev_if_neg hx (ev_bind h1 (ev_if_pos rfl (ev_bind (ev_some _) (ev_if_pos rfl (ev_bind g1 (ev_bind hseg h))))))
   by_cases he : e = 0
   ·rw [if_pos he] at g2;have hN := g5 he
    have hi2 : ∀ {Z}, Ev (fun k => (if T > 0 then (some (([] : List (S61)), (16 : Int))) else (if (R.length : Int) ≥ 60 then (some (([] : List (S61)), 6)) else ((impl_Wal_lastName.f F R N T).bind fun t345 => ((impl_segmentName.f 99).bind fun t346 => (if t345.toList = t346.toList then (some (([] : List (S61)), 6)) else ((impl_plan.f k room l F R N T data).bind fun t347 => (some (t347, 0))))))))) Z → Ev (fun k => impl_walPlan.f k room l data) Z := by
     intro Z h
     unfold impl_walPlan.f
     rw [hwi];exact ev_bind (ev_some _) (ev_if_pos rfl (ev_bind g2 (ev_if_pos rfl h)))
    by_cases hT : T > 0
    ·exact ⟨[], 16, hck (w := (F, R, N, T, 16)) (hc1 (ev_if_pos he (ev_if_pos hT (ev_some _)))) (ev_if_neg (by simp) (ev_some _)), hi1 (hi2 (ev_if_pos hT (ev_some _))), by simp, by simp⟩
    ·by_cases hR : (R.length : Int) ≥ 60
     ·exact ⟨[], 6, hck (w := (F, R, N, T, 6)) (hc1 (ev_if_pos he (ev_if_neg hT (ev_if_pos hR j6)))) (ev_if_neg (by simp) (ev_some _)), hi1 (hi2 (ev_if_neg hT (ev_if_pos hR (ev_some _)))), by simp, by simp⟩
     ·have hn99 := name_impl 99 (by omega) (by omega)
      have fin : (∀ front y, segF l l.length 0 = front ++ [y] → segN y.f0 ≠ 99) → (∀ q : ByteArray, impl_Wal_lastName.f F R N T = some q → ¬ q.toList = (nameT 99).toList) → (∃ q, impl_Wal_lastName.f F R N T = some q) → Ev (fun k => spec_l04Check.f k room l data) (F, R, N, T, 0) →
        ∃ (acts : List S61) (e : Int), Ev (fun k => if (data.size : Int) > 65536 then (some ((([] : List (S61))), 2)) else ((spec_l04Check.f k room l data).bind fun bt254 => (if bt254.2.2.2.2 = 0 then ((spec_l04Plan.f k room l bt254.1 bt254.2.1 bt254.2.2.1 bt254.2.2.2.1 data).bind fun t264 => (some (t264, 0))) else (some ((([] : List (S61))), bt254.2.2.2.2))))) (acts, e) ∧ Ev (fun k => (if (!decide ((data.size : Int) > 65536)) = true then ((impl_DiskOK.f k room l).bind fun t355 => (if t355 = true then ((impl_walPlan.f k room l data).bind fun bt356 => (some (bt356.1, bt356.2))) else (some (([] : List (S61)), 1)))) else (some (([] : List (S61)), 2)))) (acts, e) ∧ acts.length ≤ 2 ∧ ∀ x ∈ acts, x.f5 = [] := by
       intro a1 a2 a3 a4;obtain ⟨q, hq⟩ := a3
       obtain ⟨acts, p1, p2, p3, p4⟩ := plan_both room l hr h8 hB3 data (by omega) F R N T hN (fun hnil => by
        have hz := ev_unique g1 (empty_log room l h8 hnil);simp only [Prod.mk.injEq] at hz
        exact ⟨hz.1, hz.2.1⟩) a1
       refine ⟨acts, 0, hck (w := (F, R, N, T, 0)) a4 (ev_if_pos rfl (ev_bind p1 (ev_some _))), hi1 (hi2 (ev_if_neg hT (ev_if_neg hR ?_))), p3, p4⟩;rw [hq, hn99];simp only [Option.bind_some];exact ev_if_neg (a2 q hq) (ev_bind p2 (ev_some _))
      rcases List.eq_nil_or_concat (segF l l.length 0) with hnil | ⟨front, y, hcat⟩
      ·have hlast : impl_Wal_lastName.f F R N T = some ⟨#[]⟩ := by
        rw [hN, hnil]
        rfl
       refine fin (fun front y h => by rw [hnil] at h; exact absurd h (by simp)) (fun q hq h => ?_) ⟨_, hlast⟩ (hc1 (ev_if_pos he (ev_if_neg hT (ev_if_neg hR (ev_if_neg (by rw [hnil]; simp) j0f)))));rw [hlast] at hq;obtain rfl := Option.some.inj hq;have h2 := congrArg List.length h;rw [ByteArray.toList_eq, ByteArray.toList_eq, Array.length_toList, Array.length_toList] at h2;have h3 := nameT_size 99;have h4 : (nameT 99).data.size = 3 := h3;rw [h4] at h2;exact absurd h2 (by decide)
      ·rw [List.concat_eq_append] at hcat
       have hy : y ∈ segF l l.length 0 := by rw [hcat]; simp
       obtain ⟨p, _, hp, _, hpos⟩ := segF_mem l l.length 0 (by omega) y hy;have hrg := segN_range y.f0
       have hln : ((segF l l.length 0).length : Int) = (front.length : Int) + 1 := by rw [hcat, List.length_append]; simp
       have hlen : (((segF l l.length 0).map fun y => segN y.f0).length : Int) = (front.length : Int) + 1 := by rw [List.length_map]; exact hln
       have hw : wrap64 ((((segF l l.length 0).map fun y => segN y.f0).length : Int) - 1) = (front.length : Int) := by
        rw [hlen, wrap_in (by omega) (by omega)]
        omega
       have hrd : rd ((segF l l.length 0).map fun y => segN y.f0) (front.length : Int) = segN y.f0 := by
        unfold rd
        rw [hcat, Int.toNat_natCast, List.map_append, List.getD_eq_getElem?_getD, List.getElem?_append_right (by rw [List.length_map]; exact Nat.le_refl _)]
        simp
       have hNl : (N.length : Int) = (front.length : Int) + 1 := by rw [hN, List.length_map]; exact hln
       have hwN : wrap64 ((N.length : Int) - 1) = (front.length : Int) := by rw [hNl, wrap_in (by omega) (by omega)]; omega
       have hlast : impl_Wal_lastName.f F R N T = some y.f0 := by
        unfold impl_Wal_lastName.f
        rw [if_neg (by omega), hwN, if_pos (by omega), if_pos (by omega)]
        congr 1
        unfold rdOf
        rw [hN, hcat, Int.toNat_natCast, List.map_append, List.getD_eq_getElem?_getD, List.getElem?_append_right (by rw [List.length_map]; exact Nat.le_refl _)]
        simp
       have hyn := name_of y.f0 hpos
       by_cases h9 : segN y.f0 = 99
       ·refine ⟨[], 6, hck (w := (F, R, N, T, 6)) (hc1 (ev_if_pos he (ev_if_neg hT (ev_if_neg hR (ev_if_pos (by rw [hlen]; omega) ?_))))) (ev_if_neg (by simp) (ev_some _)), hi1 (hi2 (ev_if_neg hT (ev_if_neg hR ?_))), by simp, by simp⟩
        ·simp only [hw, hrd];exact ev_if_pos (by omega) (ev_if_pos (by rw [hlen]; omega) (by rw [show (segN y.f0 == 99) = true from beq_iff_eq.mpr h9]; exact j6))
        ·rw [hlast, hn99];simp only [Option.bind_some];exact ev_if_pos (by rw [hyn, h9]) (ev_some _)
       ·refine fin (fun f2 y2 h => ?_) (fun q hq h => ?_) ⟨_, hlast⟩ (hc1 (ev_if_pos he (ev_if_neg hT (ev_if_neg hR (ev_if_pos (by rw [hlen]; omega) ?_)))))
        ·rw [hcat] at h;have h2 := List.append_inj_right' h rfl;obtain rfl := (List.cons.inj h2).1;exact h9
        ·rw [hlast] at hq;obtain rfl := Option.some.inj hq;rw [hyn] at h;exact h9 (nameT_inj _ _ (by omega) (by omega) h)
        ·simp only [hw, hrd];exact ev_if_pos (by omega) (ev_if_pos (by rw [hlen]; omega) (by rw [show (segN y.f0 == 99) = false from beq_eq_false_iff_ne.mpr h9]; exact j0f))
   ·rw [if_neg he] at g2;refine ⟨[], e, hck (w := (F, R, N, T, e)) (hc1 (ev_if_neg he (ev_some _))) (ev_if_neg he (ev_some _)), hi1 ?_, by simp, by simp⟩
    unfold impl_walPlan.f
    rw [hwi];exact ev_bind (ev_some _) (ev_if_pos rfl (ev_bind g2 (ev_if_neg he (ev_some _))))
theorem FnExactWalPlan : laws_FnExactWalPlan.Pure := by
 intro a l data _ hg _;refine Ev.rounds (r := true) ?_
 unfold laws_FnExactWalPlan.f
 by_cases hx : (data.size : Int) > 1048576
 ·exact ev_if_pos hx (ev_some _)
 refine ev_if_neg hx ?_;obtain ⟨s, hs, hh⟩ := szDisk_ev a l hg 1048576 (by omega) (by omega);refine ev_bind hs ?_
 by_cases hneg : s < 0
 ·exact ev_if_pos hneg (ev_some _)
 ·obtain ⟨_, hl, _, hB⟩ := hh.resolve_left (by omega);have ht := toDisk_ev a l (by omega);have hml : (l.map convFile).length = l.length := List.length_map _;obtain ⟨acts, e, h1, h2, h3, h4⟩ := plan_answer a (l.map convFile) data (by omega) (conv_bound l 1048576 (by omega) hB);have he := eqDisk_ev a (l.map convFile) (by omega);have hm1 := markFileS_ev (l.map convFile) (by omega)
  have hk1 : Ev (fun k => laws_markDisk.f k a (l.map convFile) 1) (3 * ((l.map convFile).length : Int) + 1, marksF (l.map convFile).length) := by
   unfold laws_markDisk.f
   exact ev_bind hm1 (ev_some _)
  have hq := eqActS_ev acts (by omega) h4;have hk2 := markActS_ev acts (by omega) h4;have hd := heldActS_ev acts.length (by omega)
  have hee : (e != e) = false := by simp
  have p1 : ∀ {c : Prop} [Decidable c] {f g : Nat → Option Bool}, c → Ev f true → Ev (fun k => if c then f k else g k) true := fun hc h => ev_if_pos hc h
  refine ev_if_neg hneg (ev_bind ht (ev_bind h1 (ev_bind ht (ev_bind h2 (ev_bind hq (ev_if_pos (by first | rfl | trivial) (ev_if_pos (by first | rfl | trivial) (ev_bind ht (ev_bind he (ev_if_pos (by first | rfl | trivial) (ev_bind hk1 (ev_if_neg (by simp only; omega) (ev_bind hq (ev_if_pos (by first | rfl | trivial) ?_))))))))))))));exact ev_bind hk2 (ev_bind hd (ev_if_neg (by omega) (ev_if_pos (by first | rfl | trivial) (ev_bind ht (ev_bind h2 (ev_bind hq (ev_if_pos (by first | rfl | trivial) (ev_if_pos (by first | rfl | trivial) (ev_bind hd (ev_if_neg (by omega) (ev_if_pos (by first | rfl | trivial) (ev_some _))))))))))))
end Go.Proofs.YtpdhfoegbannkaaDoor.Pure
