/- StateRecords answers as the reference's at every two states: the plain form. No conditions. -/
import Derived.Test.YtbkgjjiceldjeaaMFnExactStateRecordsQFnExactStateRecords
import Derived.Test.YtbkgjjiceldjeaaMFnExactStateRecordsU
namespace Go.Proofs.Ytbkgjjiceldjeaa.Pure
open Go.RowKit Go.Proofs.Ytbkgjjiceldjeaa.PFnExactStateRecords Go.Proofs.YtbkgjjiceldjeaaW.PrintWords Go.Proofs.YtbkgjjiceldjeaaW.PrintLast Go.Proofs.YtbkgjjiceldjeaaW.PrintMore Go.Proofs.Ytbkgjjiceldjeaa.U
set_option linter.unusedVariables false
set_option linter.unusedSimpArgs false
/-- What members' data must be, up to place n. -/
def okTo (s : ByteArray) : Nat → Bool
  | 0 => true
  | n + 1 => okTo s n && decide (bt s (n : Int) ≤ 6) && (decide (n = 0) || decide (bt s ((n : Int) - 1) < bt s (n : Int)))
def mOK (s : ByteArray) : Bool := decide (0 < s.size) && okTo s s.size
theorem okTo_mono (s : ByteArray) (a b : Nat) (h : a ≤ b) (hb : okTo s b = true) : okTo s a = true := by
  induction b with
  | zero => obtain rfl : a = 0 := by omega
            exact hb
  | succ b ih =>
    rcases Nat.lt_or_ge b a with hlt | hge
    · obtain rfl : a = b + 1 := by omega
      exact hb
    · simp only [okTo, Bool.and_eq_true] at hb
      exact ih hge hb.1.1
theorem byte_wrap (s : ByteArray) (i : Int) : wrap64 (bt s i) = bt s i := by
  have := bt_range s i
  exact wrap_in (by omega) (by omega)
theorem snoc_bytes (s : ByteArray) (n : Nat) (h : n < s.size) : (bytesOf s).take n ++ [bt s (n : Int)] = (bytesOf s).take (n + 1) := by
  have hl := bytesOf_length s
  rw [List.take_succ_eq_append_getElem (by omega), ← rd_bytesOf]
  unfold rd
  rw [Int.toNat_natCast, List.getD_eq_getElem?_getD, List.getElem?_eq_getElem (by omega), Option.getD_some]
theorem spec_members (s : ByteArray) (hs : s.size ≤ 1048576) (d : Nat) : ∀ n : Nat, n + d = s.size → okTo s n = true →
    Ev (fun k => spec_l02Members.l0 k s ((bytesOf s).take n) (n : Int)) (if mOK s then bytesOf s else (if okTo s s.size then bytesOf s else []), mOK s) := by
  have hl := bytesOf_length s
  induction d with
  | zero =>
    intro n hn ho
    obtain rfl : n = s.size := by omega
    refine ev_succ (ev_of_eq fun k => ?_)
    simp only [spec_l02Members.l0]
    rw [if_neg (by omega), List.take_of_length_le (by omega), ho]
    have e : mOK s = decide (((bytesOf s).length : Int) > 0) := by
      unfold mOK
      rw [ho, Bool.and_true, hl]
      rw [Bool.eq_iff_iff]; simp
    rw [e]
    split <;> rfl
  | succ d ih =>
    intro n hn ho
    have hb := bt_range s (n : Int)
    have hlt : ((bytesOf s).take n).length < 17592186044416 := by rw [List.length_take]; omega
    have hin : spec_l01In.f (bt s (n : Int)) 0 6 = some (decide (bt s (n : Int) ≤ 6)) := by unfold spec_l01In.f; rw [if_pos hb.1]
    have hbad : okTo s (n + 1) = false → mOK s = false ∧ okTo s s.size = false := by
      intro h
      have : okTo s s.size = false := by
        rw [Bool.eq_false_iff]
        intro ht
        rw [okTo_mono s (n + 1) s.size (by omega) ht] at h
        exact Bool.noConfusion h
      exact ⟨by unfold mOK; rw [this, Bool.and_false], this⟩
    by_cases h6 : bt s (n : Int) ≤ 6
    · by_cases hn0 : n = 0
      · subst hn0
        have hok : okTo s (0 + 1) = true := by simp [okTo]; exact h6
        refine ev_succ (ev_congr (fun k => ?_) (ih (0 + 1) (by omega) hok))
        simp only [spec_l02Members.l0, byte_wrap, hin, Option.bind_some]
        rw [if_pos (by omega), if_pos (by omega), if_pos (by simpa using h6), if_neg (by omega), if_pos hlt, snoc_bytes s 0 (by omega), wrap_in (by omega) (by omega)]
        rfl
      · have hp : wrap64 ((n : Int) - 1) = (n : Int) - 1 := wrap_in (by omega) (by omega)
        by_cases hr : bt s ((n : Int) - 1) < bt s (n : Int)
        · have hok : okTo s (n + 1) = true := by simp [okTo, ho, h6, hr]
          refine ev_succ (ev_congr (fun k => ?_) (ih (n + 1) (by omega) hok))
          simp only [spec_l02Members.l0, byte_wrap, hin, Option.bind_some, hp]
          rw [if_pos (by omega), if_pos (by omega), if_pos (by simpa using h6), if_pos (by omega), if_pos (by omega), if_pos (by omega), if_neg (by omega), if_pos hlt, snoc_bytes s n (by omega), wrap_in (by omega) (by omega)]
          rfl
        · have hok : okTo s (n + 1) = false := by simp [okTo, ho, h6, hr, hn0]
          obtain ⟨h1, h2⟩ := hbad hok
          refine ev_succ (ev_of_eq fun k => ?_)
          simp only [spec_l02Members.l0, byte_wrap, hin, Option.bind_some, hp]
          rw [if_pos (by omega), if_pos (by omega), if_pos (by simpa using h6), if_pos (by omega), if_pos (by omega), if_pos (by omega), if_pos (by omega), h1, h2]
          rfl
    · have hok : okTo s (n + 1) = false := by simp [okTo, h6]
      obtain ⟨h1, h2⟩ := hbad hok
      refine ev_succ (ev_of_eq fun k => ?_)
      simp only [spec_l02Members.l0, byte_wrap, hin, Option.bind_some]
      rw [if_pos (by omega), if_pos (by omega), if_neg (by simpa using h6), h1, h2]
      rfl
/-- The numbers rise, up to place n. -/
def riseTo (s : ByteArray) : Nat → Bool
  | 0 => true
  | n + 1 => riseTo s n && (decide (n = 0) || decide (bt s ((n : Int) - 1) < bt s (n : Int)))
def smallTo (s : ByteArray) : Nat → Bool
  | 0 => true
  | n + 1 => smallTo s n && decide (bt s (n : Int) ≤ 6)
theorem okTo_eq (s : ByteArray) (n : Nat) : okTo s n = (smallTo s n && riseTo s n) := by
  induction n with
  | zero => rfl
  | succ n ih =>
    simp only [okTo, smallTo, riseTo, ih]
    cases smallTo s n <;> cases riseTo s n <;> cases decide (bt s (n : Int) ≤ 6) <;> simp
theorem riseTo_mono (s : ByteArray) (a b : Nat) (h : a ≤ b) (hb : riseTo s b = true) : riseTo s a = true := by
  induction b with
  | zero => obtain rfl : a = 0 := by omega
            exact hb
  | succ b ih =>
    rcases Nat.lt_or_ge b a with hlt | hge
    · obtain rfl : a = b + 1 := by omega
      exact hb
    · simp only [riseTo, Bool.and_eq_true] at hb
      exact ih hge hb.1
theorem numbers_eq (s : ByteArray) : impl_areNumbers.f (bytesOf s) = some (smallTo s s.size) := by
  have hl := bytesOf_length s
  have key : ∀ n : Nat, n ≤ s.size → (!(((bytesOf s).take n).any impl_areNumbers.p)) = smallTo s n := by
    intro n
    induction n with
    | zero => intro _; rfl
    | succ n ih =>
      intro hn
      rw [← snoc_bytes s n (by omega), List.any_append, Bool.not_or, ih (by omega)]
      have hb := bt_range s (n : Int)
      simp only [smallTo, List.any_cons, List.any_nil, Bool.or_false, impl_areNumbers.p, Bool.not_not]
      rw [if_pos hb.1]
  unfold impl_areNumbers.f
  rw [← key s.size (Nat.le_refl _), List.take_of_length_le (by omega)]
theorem rising_ev (s : ByteArray) (hs : s.size ≤ 1048576) (d : Nat) : ∀ n : Nat, 1 ≤ n → n + d = s.size → riseTo s n = true → Ev (fun k => impl_areRising.l0 k (bytesOf s) (n : Int)) (riseTo s s.size) := by
  have hl := bytesOf_length s
  induction d with
  | zero =>
    intro n h1 hn hr
    obtain rfl : n = s.size := by omega
    refine ev_succ (ev_of_eq fun k => ?_)
    simp only [impl_areRising.l0]
    rw [if_neg (by omega), hr]
  | succ d ih =>
    intro n h1 hn hr
    have hp : wrap64 ((n : Int) - 1) = (n : Int) - 1 := wrap_in (by omega) (by omega)
    by_cases hlt : bt s ((n : Int) - 1) < bt s (n : Int)
    · refine ev_succ (ev_congr (fun k => ?_) (ih (n + 1) (by omega) (by omega) (by simp [riseTo, hr, hlt])))
      simp only [impl_areRising.l0, hp, rd_bytesOf]
      rw [if_pos (by omega), if_pos (by omega), if_pos (by omega), if_pos (by omega), if_neg (by omega), wrap_in (by omega) (by omega)]
      rfl
    · have hf : riseTo s s.size = false := by
        rw [Bool.eq_false_iff]
        intro ht
        have := riseTo_mono s (n + 1) s.size (by omega) ht
        simp only [riseTo, Bool.and_eq_true, Bool.or_eq_true, decide_eq_true_eq] at this
        omega
      refine ev_succ (ev_of_eq fun k => ?_)
      simp only [impl_areRising.l0, hp, rd_bytesOf]
      rw [if_pos (by omega), if_pos (by omega), if_pos (by omega), if_pos (by omega), if_pos (by omega), hf]
theorem membersOK_ev (s : ByteArray) (hs : s.size ≤ 1048576) : Ev (fun k => impl_membersOK.f k (bytesOf s)) (mOK s) := by
  have hl := bytesOf_length s
  unfold impl_membersOK.f mOK
  rw [numbers_eq]
  simp only [Option.bind_some]
  by_cases h0 : 0 < s.size
  · refine ev_if_pos (by omega) ?_
    rw [okTo_eq]
    cases hm : smallTo s s.size with
    | false => simp only [Bool.false_and, Bool.and_false]; exact ev_if_neg (by simp) (ev_some _)
    | true =>
      simp only [Bool.true_and]
      rw [decide_eq_true h0, Bool.true_and]
      refine ev_if_pos trivial ?_
      have hr1 : riseTo s 1 = true := by simp [riseTo]
      have := rising_ev s hs (s.size - 1) 1 (Nat.le_refl _) (by omega) hr1
      exact ev_bind (g := fun k => impl_areRising.f k (bytesOf s)) this (ev_some _)
  · rw [decide_eq_false h0, Bool.false_and]
    exact ev_if_neg (by omega) (ev_some _)
theorem spec_l02Members_ev (s : ByteArray) (hs : s.size ≤ 1048576) : ∃ l, Ev (fun k => spec_l02Members.f k s) (l, mOK s) ∧ (mOK s = true → l = bytesOf s) := by
  have := spec_members s hs s.size 0 (by omega) rfl
  exact ⟨_, this, fun h => by rw [if_pos h]⟩

theorem impl_members (s : ByteArray) (hs : s.size ≤ 1048576) (d : Nat) : ∀ n : Nat, n + d = s.size → Ev (fun k => impl_readMembers.l0 k s ((bytesOf s).take n) (s.size : Int) (n : Int)) (bytesOf s, mOK s) := by
  have hl := bytesOf_length s
  induction d with
  | zero =>
    intro n hn
    obtain rfl : n = s.size := by omega
    refine ev_succ (ev_congr (fun k => ?_) (ev_bind (f := fun _ t => some (bytesOf s, t)) (membersOK_ev s hs) (ev_some _)))
    simp only [impl_readMembers.l0]
    rw [if_neg (by omega), List.take_of_length_le (by omega)]
  | succ d ih =>
    intro n hn
    refine ev_succ (ev_congr (fun k => ?_) (ih (n + 1) (by omega)))
    simp only [impl_readMembers.l0, byte_wrap]
    rw [if_pos (by omega), if_pos (by omega), if_pos (by omega), if_pos (by rw [List.length_take]; omega), snoc_bytes s n (by omega), wrap_in (by omega) (by omega)]
    rfl
theorem impl_readMembers_ev (s : ByteArray) (hs : s.size ≤ 1048576) : Ev (fun k => impl_readMembers.f k s) (bytesOf s, mOK s) := by
  have := impl_members s hs s.size 0 (by omega)
  exact this

/-- Whether an entry is right: both say the same. -/
theorem entry_same (a b : Int) (c : ByteArray) (hc : c.size ≤ 1048576) : ∃ r, Ev (fun k => spec_l02Entry.f k a b c) r ∧ Ev (fun k => impl_entryOK.f k a b c) r := by
  unfold spec_l02Entry.f impl_entryOK.f
  have e0 : spec_l01In.f a 1 1000000 = impl_within.f a 1 1000000 := rfl
  rw [e0]
  obtain ⟨q, hq⟩ : ∃ q, impl_within.f a 1 1000000 = some q := by unfold impl_within.f; split <;> exact ⟨_, rfl⟩
  rw [hq]
  simp only [Option.bind_some]
  cases q with
  | false => exact ⟨false, ev_if_neg (by simp) (ev_some _), ev_if_neg (by simp) (ev_some _)⟩
  | true =>
    by_cases b0 : b = 0
    · exact ⟨_, ev_if_pos rfl (ev_if_pos b0 (ev_some _)), ev_if_pos rfl (ev_if_pos b0 (ev_some _))⟩
    · by_cases b1 : b = 1
      · by_cases hs : (c.size : Int) ≥ 1
        · refine ⟨decide ((c.size : Int) ≤ 100), ev_if_pos rfl (ev_if_neg b0 (ev_if_pos b1 (ev_if_pos hs (ev_some _)))), ev_if_pos rfl (ev_if_neg b0 (ev_if_pos b1 ?_))⟩
          have e : impl_within.f (c.size : Int) 1 100 = some (decide ((c.size : Int) ≤ 100)) := by unfold impl_within.f; rw [if_pos hs]
          rw [e]
          exact ev_some _
        · refine ⟨false, ev_if_pos rfl (ev_if_neg b0 (ev_if_pos b1 (ev_if_neg hs (ev_some _)))), ev_if_pos rfl (ev_if_neg b0 (ev_if_pos b1 ?_))⟩
          have e : impl_within.f (c.size : Int) 1 100 = some false := by unfold impl_within.f; rw [if_neg hs]
          rw [e]
          exact ev_some _
      · by_cases b2 : b = 2
        · obtain ⟨l, hl, _⟩ := spec_l02Members_ev c hc
          have hr := impl_readMembers_ev c hc
          exact ⟨mOK c, ev_if_pos rfl (ev_if_neg b0 (ev_if_neg b1 (ev_if_pos b2 (ev_bind hl (ev_some _))))), ev_if_pos rfl (ev_if_neg b0 (ev_if_neg b1 (ev_if_pos b2 (ev_bind hr (ev_some _)))))⟩
        · exact ⟨false, ev_if_pos rfl (ev_if_neg b0 (ev_if_neg b1 (ev_if_neg b2 (ev_some _)))), ev_if_pos rfl (ev_if_neg b0 (ev_if_neg b1 (ev_if_neg b2 (ev_some _))))⟩

/-- From entry i on both come to one answer; the program asks at the end how many there are. -/
theorem log_both (l : List S49) (hl : l.length ≤ 1048576) (hB : ∀ x ∈ l, x.f2.size ≤ 1048576) (t v : Int) (d : Nat) : ∀ i : Nat, i + d = l.length →
    ∃ b, Ev (fun k => spec_StateOK.l0 k (i : Int) t v l) b ∧ Ev (fun k => impl_logOK.l0 k l t l (l.length : Int) (i : Int)) (b && decide ((l.length : Int) ≤ 60)) := by
  induction d with
  | zero =>
    intro i hi
    refine ⟨true, ev_succ (ev_of_eq fun k => ?_), ev_succ (ev_of_eq fun k => ?_)⟩
    · simp only [spec_StateOK.l0]; rw [if_neg (by omega)]
    · simp only [impl_logOK.l0]; rw [if_neg (by omega), Bool.true_and]
  | succ d ih =>
    intro i hi
    have hi1 : (i : Int) < (l.length : Int) := by omega
    have hi0 : 0 ≤ (i : Int) := by omega
    have hw : wrap64 ((i : Int) + 1) = ((i + 1 : Nat) : Int) := by rw [wrap_in (by omega) (by omega)]; omega
    have hp : wrap64 ((i : Int) - 1) = (i : Int) - 1 := wrap_in (by omega) (by omega)
    have hmem : rd_T49 l (i : Int) ∈ l := by
      unfold rd_T49
      rw [Int.toNat_natCast, List.getD_eq_getElem?_getD, List.getElem?_eq_getElem (by omega), Option.getD_some]
      exact List.getElem_mem _
    have hsz := hB _ hmem
    obtain ⟨b, hs, hm⟩ := ih (i + 1) (by omega)
    generalize hx : rd_T49 l (i : Int) = x at *
    obtain ⟨r, h1, h2⟩ := entry_same x.f0 x.f1 x.f2 hsz
    cases r with
    | false =>
      refine ⟨false, ev_succ ?_, ev_succ ?_⟩
      · simp only [spec_StateOK.l0, hx]
        exact ev_if_pos hi1 (ev_if_pos hi0 (ev_bind h1 (ev_if_neg (by simp) (ev_some _))))
      · simp only [impl_logOK.l0, hx]
        exact ev_if_pos hi1 (ev_if_pos hi0 (ev_if_pos hi1 (ev_bind h2 (ev_if_neg (by simp) (ev_some _)))))
    | true =>
      by_cases c1 : x.f0 > t
      · refine ⟨false, ev_succ ?_, ev_succ ?_⟩
        · simp only [spec_StateOK.l0, hx]
          exact ev_if_pos hi1 (ev_if_pos hi0 (ev_bind h1 (ev_if_pos rfl (ev_if_pos c1 (ev_some _)))))
        · simp only [impl_logOK.l0, hx]
          exact ev_if_pos hi1 (ev_if_pos hi0 (ev_if_pos hi1 (ev_bind h2 (ev_if_pos rfl (ev_if_pos c1 (ev_some _))))))
      · by_cases c2 : (i : Int) > 0
        · by_cases c3 : (rd_T49 l ((i : Int) - 1)).f0 > x.f0
          · refine ⟨false, ev_succ ?_, ev_succ ?_⟩
            · simp only [spec_StateOK.l0, hx, hp]
              exact ev_if_pos hi1 (ev_if_pos hi0 (ev_bind h1 (ev_if_pos rfl (ev_if_neg c1 (ev_if_pos c2 (ev_if_pos (by omega) (ev_if_pos (by omega) (ev_if_pos c3 (ev_some _)))))))))
            · simp only [impl_logOK.l0, hx, hp]
              exact ev_if_pos hi1 (ev_if_pos hi0 (ev_if_pos hi1 (ev_bind h2 (ev_if_pos rfl (ev_if_neg c1 (ev_if_pos c2 (ev_if_pos (by omega) (ev_if_pos (by omega) (ev_if_pos c3 (ev_some _))))))))))
          · refine ⟨b, ev_succ ?_, ev_succ ?_⟩
            · simp only [spec_StateOK.l0, hx, hp, hw]
              exact ev_if_pos hi1 (ev_if_pos hi0 (ev_bind h1 (ev_if_pos rfl (ev_if_neg c1 (ev_if_pos c2 (ev_if_pos (by omega) (ev_if_pos (by omega) (ev_if_neg c3 hs))))))))
            · simp only [impl_logOK.l0, hx, hp, hw]
              exact ev_if_pos hi1 (ev_if_pos hi0 (ev_if_pos hi1 (ev_bind h2 (ev_if_pos rfl (ev_if_neg c1 (ev_if_pos c2 (ev_if_pos (by omega) (ev_if_pos (by omega) (ev_if_neg c3 hm)))))))))
        · refine ⟨b, ev_succ ?_, ev_succ ?_⟩
          · simp only [spec_StateOK.l0, hx, hw]
            exact ev_if_pos hi1 (ev_if_pos hi0 (ev_bind h1 (ev_if_pos rfl (ev_if_neg c1 (ev_if_neg c2 hs)))))
          · simp only [impl_logOK.l0, hx, hw]
            exact ev_if_pos hi1 (ev_if_pos hi0 (ev_if_pos hi1 (ev_bind h2 (ev_if_pos rfl (ev_if_neg c1 (ev_if_neg c2 hm))))))
theorem state_same (t v : Int) (l : List S49) (hl : l.length ≤ 1048576) (hB : ∀ x ∈ l, x.f2.size ≤ 1048576) : ∃ b, Ev (fun k => spec_StateOK.f k t v l) b ∧ Ev (fun k => impl_StateOK.f k t v l) b := by
  obtain ⟨b, hs, hm⟩ := log_both l hl hB t v l.length 0 (by omega)
  unfold spec_StateOK.f impl_StateOK.f
  have e1 : spec_l01In.f t 0 1000000 = impl_within.f t 0 1000000 := rfl
  have e2 : spec_l01In.f v (-1) 6 = impl_within.f v (-1) 6 := rfl
  rw [e1, e2]
  obtain ⟨q1, hq1⟩ : ∃ q, impl_within.f t 0 1000000 = some q := by unfold impl_within.f; split <;> exact ⟨_, rfl⟩
  obtain ⟨q2, hq2⟩ : ∃ q, impl_within.f v (-1) 6 = some q := by unfold impl_within.f; split <;> exact ⟨_, rfl⟩
  rw [hq1, hq2]
  simp only [Option.bind_some]
  have hbad : Ev (fun k => spec_StateOK.j0 k true t v l) false := by
    refine ev_succ ?_
    simp only [spec_StateOK.j0]
    exact ev_if_pos trivial (ev_some _)
  cases q1 with
  | false => exact ⟨false, ev_if_neg (by simp) hbad, ev_if_neg (by simp) (ev_some _)⟩
  | true =>
    cases q2 with
    | false => exact ⟨false, ev_if_pos rfl (ev_if_neg (by simp) hbad), ev_if_pos rfl (ev_if_neg (by simp) (ev_some _))⟩
    | true =>
      have hm2 : Ev (fun k => impl_logOK.f k l t) (b && decide ((l.length : Int) ≤ 60)) := hm
      by_cases h60 : (l.length : Int) > 60
      · rw [decide_eq_false (by omega), Bool.and_false] at hm2
        rw [decide_eq_true h60]
        exact ⟨false, ev_if_pos rfl (ev_if_pos rfl hbad), ev_if_pos rfl (ev_if_pos rfl (ev_bind hm2 (ev_some _)))⟩
      · rw [decide_eq_true (by omega), Bool.and_true] at hm2
        rw [decide_eq_false h60]
        refine ⟨b, ev_if_pos rfl (ev_if_pos rfl (ev_succ ?_)), ev_if_pos rfl (ev_if_pos rfl (ev_bind hm2 (ev_some _)))⟩
        simp only [spec_StateOK.j0]
        exact ev_if_neg (by simp) hs
def convEntry (x : S46) : S49 := ⟨x.f0, x.f1, x.f2⟩
theorem toEntryS_ev (l : List S46) (hl : l.length ≤ 1048576) : Ev (fun k => laws_toEntryS.f k l) (l.map convEntry) := by
  have hml : (l.map convEntry).length = l.length := List.length_map _
  have key := ev_loop (fun k (s : List S49 × Int) => laws_toEntryS.l0 k l s.1 s.2) (fun s => 0 ≤ s.2 ∧ s.2 ≤ l.length ∧ s.1.length = l.length ∧ ∀ j : Nat, j < s.2.toNat → s.1[j]? = (l.map convEntry)[j]?) (fun s => l.length - s.2.toNat) (fun _ => l.map convEntry) (by
    rintro ⟨x, i⟩ ⟨h0, h1, h2, h3⟩
    simp only at h0 h1 h2 h3
    by_cases hi : i < (l.length : Int)
    · right
      obtain ⟨hs1, hs2⟩ := copy_step (l.map convEntry) x i.toNat (convEntry z46) (by rw [hml]; exact h2) (by rw [hml]; omega) h3
      have hg : (l.map convEntry).getD i.toNat (convEntry z46) = convEntry (rd_T46 l i) := by
        unfold rd_T46
        rw [List.getD_eq_getElem?_getD, List.getD_eq_getElem?_getD, List.getElem?_map]
        cases l[i.toNat]? <;> rfl
      rw [hg] at hs1 hs2
      rw [hml] at hs1
      refine ⟨(x.set i.toNat (convEntry (rd_T46 l i)), i + 1), ⟨by simp only; omega, by simp only; omega, hs1, fun j hj => hs2 j (by simp only at hj; omega)⟩, by simp only; omega, rfl, 0, fun j _ => ?_⟩
      show laws_toEntryS.l0 (j + 1) l x i = _
      simp only [laws_toEntryS.l0, laws_toEntry.f, Option.bind_some]
      rw [if_pos (by omega), if_pos h0, if_pos (by omega), wrap_in (x := i + 1) (by omega) (by omega)]
      rfl
    · left
      refine ⟨0, fun j _ => ?_⟩
      show laws_toEntryS.l0 (j + 1) l x i = _
      simp only [laws_toEntryS.l0]
      rw [if_neg (by omega), copy_end (l.map convEntry) x (by rw [hml]; exact h2) (fun j hj => h3 j (by rw [hml] at hj; omega))])
  have := key (List.replicate l.length z49, 0) ⟨by simp, by simp, by simp, fun j hj => absurd hj (by simp)⟩
  refine ev_congr (fun k => ?_) this
  unfold laws_toEntryS.f
  rw [if_pos (by omega), if_pos (by omega), Int.toNat_natCast]

theorem eqEntry_same (a0) (a1) (a2) : laws_eqEntry.f a0 a1 a2 a0 a1 a2 = some true := by
  unfold laws_eqEntry.f
  repeat' split
  all_goals first | rfl | (exfalso; simp_all)
theorem eqEntryS_ev (l : List S49) (hl : l.length ≤ 1048576) : Ev (fun k => laws_eqEntryS.f k l l) true := by
  have key := ev_loop (fun k (i : Int) => laws_eqEntryS.l0 k l l i) (fun i => 0 ≤ i ∧ i ≤ l.length) (fun i => l.length - i.toNat) (fun _ => true) (by
    rintro i ⟨h0, h1⟩
    by_cases hi : i < (l.length : Int)
    · right
      refine ⟨i + 1, ⟨by omega, by omega⟩, by omega, rfl, 0, fun j _ => ?_⟩
      simp only [laws_eqEntryS.l0, eqEntry_same, Option.bind_some]
      rw [if_pos hi, if_pos h0, if_pos hi, if_pos trivial, wrap_in (by omega) (by omega)]
    · left
      refine ⟨0, fun j _ => ?_⟩
      simp only [laws_eqEntryS.l0]
      rw [if_neg hi])
  refine ev_congr (fun k => ?_) (key 0 ⟨by omega, by omega⟩)
  unfold laws_eqEntryS.f
  rw [if_pos rfl]

/-- The texts of one are no longer than what is left. -/
def BEntry (x : S46) (n : Int) : Prop := (x.f2.size : Int) ≤ n
theorem szEntry_some (x : S46) (hg : g46 x) (n : Int) (h0 : 0 ≤ n) (h1 : n ≤ 1048576) : ∃ s, laws_szEntry.f x.f0 x.f1 x.f2 n = some s ∧ s ≤ n ∧ (0 ≤ s ∨ s = -1) ∧ (0 ≤ s → BEntry x n) := by
  unfold laws_szEntry.f BEntry
  have hb2 : x.f2.size ≤ maxLen := hg.2.2
  unfold maxLen at *
  have hw0 : wrap64 (n - (x.f2.size : Int)) = n - (x.f2.size : Int) := wrap_in (by omega) (by omega)
  by_cases c0 : n - (x.f2.size : Int) < 0
  · refine ⟨-1, ?_, by omega, .inr rfl, fun h => absurd h (by omega)⟩
    simp only [hw0]
    rw [if_pos c0]
  · skip
    refine ⟨n - (x.f2.size : Int), ?_, by omega, .inl (by omega), fun _ => by omega⟩
    simp only [hw0]
    rw [if_neg c0]

theorem szEntryS_ev (l : List S46) (hg : Open.GL g46 l) (n : Int) (h0 : 0 ≤ n) (h1 : n ≤ 1048576) : ∃ s, Ev (fun k => laws_szEntryS.f k l n) s ∧ (s = -1 ∨ 0 ≤ s ∧ (l.length : Int) ≤ n ∧ s ≤ n ∧ ∀ x ∈ l, BEntry x n) := by
  have hm := hg.1
  unfold maxLen at hm
  have hw : wrap64 (n - (l.length : Int)) = n - (l.length : Int) := wrap_in (by omega) (by omega)
  by_cases hneg : n - (l.length : Int) < 0
  · exact ⟨-1, ev_of_eq fun k => by unfold laws_szEntryS.f; rw [hw, if_pos hneg], .inl rfl⟩
  · have key : ∀ (d i : Nat) (v : Int), i + d = l.length → 0 ≤ v → v ≤ n → ∃ s, Ev (fun k => laws_szEntryS.l0 k l v (i : Int)) s ∧ (s = -1 ∨ 0 ≤ s ∧ s ≤ n ∧ ∀ x ∈ l.drop i, BEntry x n) := by
      intro d
      induction d with
      | zero =>
        intro i v hi hv0 hv1
        exact ⟨v, ev_succ (ev_of_eq fun k => by simp only [laws_szEntryS.l0]; rw [if_neg (by omega)]), .inr ⟨hv0, hv1, fun x hx => by rw [List.drop_eq_nil_of_le (by omega)] at hx; simp at hx⟩⟩
      | succ d ih =>
        intro i v hi hv0 hv1
        have hmem : rd_T46 l (i : Int) ∈ l := by
          unfold rd_T46
          rw [Int.toNat_natCast, List.getD_eq_getElem?_getD, List.getElem?_eq_getElem (by omega), Option.getD_some]
          exact List.getElem_mem _
        obtain ⟨s, hs, hle, hor, hB⟩ := szEntry_some (rd_T46 l (i : Int)) (hg.2 _ hmem) v hv0 (by omega)
        by_cases hs0 : s < 0
        · refine ⟨-1, ev_succ (ev_of_eq fun k => ?_), .inl rfl⟩
          simp only [laws_szEntryS.l0, hs, Option.bind_some]
          rw [if_pos (by omega), if_pos (by omega), if_pos hs0]
        · obtain ⟨r, hr, hrn⟩ := ih (i + 1) s (by omega) (by omega) (by omega)
          refine ⟨r, ev_succ (ev_congr (fun k => ?_) hr), ?_⟩
          · simp only [laws_szEntryS.l0, hs, Option.bind_some]
            rw [if_pos (by omega), if_pos (by omega), if_neg hs0, wrap_in (x := (i : Int) + 1) (by omega) (by omega)]
            rfl
          · rcases hrn with h | ⟨ha, hb, hall⟩
            · exact .inl h
            · refine .inr ⟨ha, hb, fun x hx => ?_⟩
              rw [List.drop_eq_getElem_cons (by omega)] at hx
              rcases List.mem_cons.1 hx with rfl | hx
              · have hq := hB (by omega)
                unfold rd_T46 at hq
                rw [Int.toNat_natCast, List.getD_eq_getElem?_getD, List.getElem?_eq_getElem (by omega), Option.getD_some] at hq
                unfold BEntry at hq ⊢
                omega
              · exact hall x hx
    obtain ⟨s, hs, hsn⟩ := key l.length 0 (n - (l.length : Int)) (by omega) (by omega) (by omega)
    refine ⟨s, ev_congr (fun k => ?_) hs, ?_⟩
    · unfold laws_szEntryS.f
      rw [hw, if_neg hneg]
      rfl
    · rcases hsn with h | ⟨ha, hb, hall⟩
      · exact .inl h
      · exact .inr ⟨ha, by omega, hb, fun x hx => hall x (by simpa using hx)⟩

theorem szState_ev (a b : Int) (l : List S46) (hg : Open.GL g46 l) (n : Int) (h0 : 0 ≤ n) (h1 : n ≤ 1048576) : ∃ s, Ev (fun k => laws_szState.f k a b l n) s ∧ (s = -1 ∨ 0 ≤ s ∧ (l.length : Int) ≤ n ∧ s ≤ n ∧ ∀ x ∈ l, BEntry x n) := by
  obtain ⟨s, hs, hh⟩ := szEntryS_ev l hg n h0 h1
  unfold laws_szState.f
  by_cases hneg : s < 0
  · exact ⟨-1, ev_bind hs (ev_if_pos hneg (ev_some _)), .inl rfl⟩
  · exact ⟨s, ev_bind hs (ev_if_neg hneg (ev_some _)), hh⟩
theorem toState_ev (a b : Int) (l : List S46) (hl : l.length ≤ 1048576) : Ev (fun k => laws_toState.f k a b l) (a, b, l.map convEntry) := by
  unfold laws_toState.f
  exact ev_bind (toEntryS_ev l hl) (ev_some _)
theorem conv_bound (l : List S46) (n : Int) (h1 : n ≤ 1048576) (h : ∀ x ∈ l, BEntry x n) : ∀ y ∈ l.map convEntry, y.f2.size ≤ 1048576 := by
  intro y hy
  obtain ⟨x, hx, rfl⟩ := List.mem_map.1 hy
  have := h x hx
  unfold BEntry at this
  show x.f2.size ≤ 1048576
  omega

theorem eqState_ev (a b : Int) (l : List S49) (hl : l.length ≤ 1048576) : Ev (fun k => laws_eqState.f k a b l a b l) true := by
  unfold laws_eqState.f
  exact ev_if_pos rfl (ev_if_pos rfl (ev_bind (eqEntryS_ev l hl) (ev_if_pos rfl (ev_some _))))

theorem eqStringS_from (l : List ByteArray) (hl : l.length ≤ 100000000) (d : Nat) : ∀ i : Nat, i + d = l.length → Ev (fun k => laws_eqStringS.l0 k l l (i : Int)) true := by
  induction d with
  | zero =>
    intro i hi
    refine ev_succ ?_
    simp only [laws_eqStringS.l0]
    exact ev_if_neg (by omega) (ev_some _)
  | succ d ih =>
    intro i hi
    have := ih (i + 1) (by omega)
    refine ev_succ ?_
    have w2 : Aside0 (wrap64 ((i : Int) + 1) = ((i + 1 : Nat) : Int)) := ⟨(wrap_in (by omega) (by omega)).trans (by omega)⟩
    simp only [laws_eqStringS.l0, w2.out]
    exact ev_if_pos (by omega) (ev_if_pos (by omega) (ev_if_pos (by omega) (ev_if_pos trivial this)))
theorem eqStringS_ev (l : List ByteArray) (hl : l.length ≤ 100000000) : Ev (fun k => laws_eqStringS.f k l l) true := by
  unfold laws_eqStringS.f
  exact ev_if_pos rfl (eqStringS_from l hl l.length 0 (by omega))

/-- Each number has a mark. -/
theorem markText_from (n : Nat) : ∀ (x : Int) (acc : ByteArray), x.toNat ≤ n → acc.size + n ≤ 4000000000 → ∃ t : ByteArray, Ev (fun k => laws_markText.l0 k x acc) t := by
  induction n with
  | zero =>
    intro x acc hx ha
    refine ⟨(⟨#[109]⟩ : ByteArray) ++ acc, ev_succ ?_⟩
    simp only [laws_markText.l0]
    exact ev_if_neg (by omega) (ev_if_pos (by omega) (ev_some _))
  | succ n ih =>
    intro x acc hx ha
    by_cases hp : x > 0
    · have hw : Aside0 (wrap64 (Int.tdiv x 10) = x / 10 ∨ ¬ x ≤ 9223372036854775807) := ⟨by
        rw [Int.tdiv_eq_ediv_of_nonneg (by omega)]
        by_cases h : x ≤ 9223372036854775807
        · exact .inl (wrap_in (by omega) (by omega))
        · exact .inr h⟩
      rcases hw.out with hq | hq
      · have hsz : (strOfNums [(wrap64 (48 + (Int.tmod x 10))) % 256]).size = 1 := size_strOfNums _
        obtain ⟨t, ht⟩ := ih (x / 10) (strOfNums [(wrap64 (48 + (Int.tmod x 10))) % 256] ++ acc) (by omega) (by rw [ByteArray.size_append, hsz]; omega)
        refine ⟨t, ev_succ ?_⟩
        simp only [laws_markText.l0, Option.bind_some, hq]
        exact ev_if_pos hp (ev_if_pos (by omega) ht)
      · exfalso; omega
    · refine ⟨(⟨#[109]⟩ : ByteArray) ++ acc, ev_succ ?_⟩
      simp only [laws_markText.l0]
      exact ev_if_neg hp (ev_if_pos (by omega) (ev_some _))
theorem markText_ex (x : Int) (hx : x ≤ 1000000000) : ∃ t : ByteArray, Ev (fun k => laws_markText.f k x) t := by
  unfold laws_markText.f
  by_cases h : x ≤ 0
  · exact ⟨_, ev_if_pos h (ev_some _)⟩
  · obtain ⟨t, ht⟩ := markText_from x.toNat x ⟨#[]⟩ (by omega) (by show 0 + _ ≤ _; omega)
    exact ⟨t, ev_if_neg h ht⟩
open Classical in
noncomputable def markT (x : Int) : ByteArray := if h : ∃ t : ByteArray, Ev (fun k => laws_markText.f k x) t then h.choose else ⟨#[]⟩
theorem markText_ev (x : Int) (hx : x ≤ 1000000000) : Ev (fun k => laws_markText.f k x) (markT x) := by
  unfold markT
  rw [dif_pos (markText_ex x hx)]
  exact (markText_ex x hx).choose_spec

/-- What the marks are. -/
noncomputable def marksT (n : Nat) : List ByteArray := (List.range n).map fun i => markT (((i : Nat) : Int) + 1)
theorem marksT_length (n : Nat) : (marksT n).length = n := by simp [marksT]
theorem marksT_get (n i : Nat) (h : i < n) : (marksT n).getD i ByteArray.empty = markT ((i : Int) + 1) := by
  unfold marksT
  rw [List.getD_eq_getElem?_getD, List.getElem?_map, List.getElem?_range h]
  rfl
theorem markStringS_from (n d : Nat) (hn : n ≤ 100000000) : ∀ (i : Nat) (x : List ByteArray), i + d = n → x.length = n → (∀ j, j < i → x[j]? = (marksT n)[j]?) → Ev (fun k => laws_markStringS.l0 k x ((i : Int) + 1) (i : Int)) ((n : Int) + 1, marksT n) := by
  have hml := marksT_length n
  induction d with
  | zero =>
    intro i x hi hx h
    refine ev_succ ?_
    simp only [laws_markStringS.l0]
    rw [show x = marksT n from copy_end (marksT n) x (by rw [hml]; exact hx) (fun j hj => h j (by rw [hml] at hj; omega)), show (i : Int) = (n : Int) from by omega]
    exact ev_if_neg (by rw [hml]; omega) (ev_some _)
  | succ d ih =>
    intro i x hi hx h
    obtain ⟨hs1, hs2⟩ := copy_step (marksT n) x i ByteArray.empty (by rw [hml]; exact hx) (by rw [hml]; omega) h
    rw [marksT_get n i (by omega)] at hs1 hs2
    rw [hml] at hs1
    have := ih (i + 1) _ (by omega) hs1 hs2
    refine ev_succ ?_
    have w1 : Aside0 (wrap64 ((i : Int) + 1 + 1) = ((i + 1 : Nat) : Int) + 1) := ⟨(wrap_in (by omega) (by omega)).trans (by omega)⟩
    have w2 : Aside0 (wrap64 ((i : Int) + 1) = ((i + 1 : Nat) : Int)) := ⟨(wrap_in (by omega) (by omega)).trans (by omega)⟩
    simp only [laws_markStringS.l0, w1.out, w2.out, Int.toNat_natCast]
    exact ev_if_pos (by omega) (ev_bind (markText_ev _ (by omega)) (ev_if_pos (by omega) this))
theorem markStringS_ev (l : List ByteArray) (hl : l.length ≤ 100000000) : Ev (fun k => laws_markStringS.f k l 1) ((l.length : Int) + 1, marksT l.length) := by
  unfold laws_markStringS.f
  exact markStringS_from l.length l.length hl 0 l (by omega) rfl (fun j hj => absurd hj (by omega))
theorem heldStringS_from (n d : Nat) (hn : n ≤ 100000000) : ∀ i : Nat, i + d = n → Ev (fun k => laws_heldStringS.l0 k (marksT n) ((i : Int) + 1) (i : Int)) ((n : Int) + 1) := by
  have hml := marksT_length n
  induction d with
  | zero =>
    intro i hi
    refine ev_succ ?_
    simp only [laws_heldStringS.l0]
    rw [show (i : Int) = (n : Int) from by omega]
    exact ev_if_neg (by rw [hml]; omega) (ev_some _)
  | succ d ih =>
    intro i hi
    have := ih (i + 1) (by omega)
    refine ev_succ ?_
    have w1 : Aside0 (wrap64 ((i : Int) + 1 + 1) = ((i + 1 : Nat) : Int) + 1) := ⟨(wrap_in (by omega) (by omega)).trans (by omega)⟩
    have w2 : Aside0 (wrap64 ((i : Int) + 1) = ((i + 1 : Nat) : Int)) := ⟨(wrap_in (by omega) (by omega)).trans (by omega)⟩
    have hr : rdOf ByteArray.empty (marksT n) (i : Int) = markT ((i : Int) + 1) := by
      unfold rdOf
      rw [Int.toNat_natCast]
      exact marksT_get n i (by omega)
    simp only [laws_heldStringS.l0, w1.out, w2.out, hr]
    exact ev_if_pos (by rw [hml]; omega) (ev_if_pos (by omega) (ev_bind (markText_ev _ (by omega)) (ev_if_pos rfl this)))
theorem heldStringS_ev (n : Nat) (hn : n ≤ 100000000) : Ev (fun k => laws_heldStringS.f k (marksT n) 1) ((n : Int) + 1) := by
  unfold laws_heldStringS.f
  exact heldStringS_from n n hn 0 (by omega)


def markStep1 (x : List S49) (i : Nat) (v : Int) : List S49 := x.set i (⟨v, (rd_T49 x (i : Int)).f1, (rd_T49 x (i : Int)).f2⟩ : S49)
def markStep2 (x : List S49) (i : Nat) (v : Int) : List S49 := x.set i (⟨(rd_T49 x (i : Int)).f0, v + 1, (rd_T49 x (i : Int)).f2⟩ : S49)
def markStep3 (x : List S49) (i : Nat) (t : ByteArray) : List S49 := x.set i (⟨(rd_T49 x (i : Int)).f0, (rd_T49 x (i : Int)).f1, t⟩ : S49)
def markStep (x : List S49) (i : Nat) (v : Int) (t : ByteArray) : List S49 := markStep3 (markStep2 (markStep1 x i v) i v) i t
theorem markEntryS_from (n : Nat) (hn : n ≤ 10000000) (d : Nat) : ∀ (i : Nat) (x : List S49) (v : Int), i + d = n → x.length = n → 0 ≤ v → v + 3 * (d : Int) ≤ 900000000 → ∃ y, Ev (fun k => laws_markEntryS.l0 k x v (i : Int)) (v + 3 * (d : Int), y) := by
  induction d with
  | zero =>
    intro i x v hi hx h0 h1
    refine ⟨x, ev_succ ?_⟩
    simp only [laws_markEntryS.l0]
    rw [show v + 3 * ((0 : Nat) : Int) = v by omega]
    exact ev_if_neg (by omega) (ev_some _)
  | succ d ih =>
    intro i x v hi hx h0 h1
    have w1 : Aside0 (wrap64 (v + 1) = v + 1) := ⟨wrap_in (by omega) (by omega)⟩
    have w2 : Aside0 (wrap64 (v + 1 + 1) = v + 1 + 1) := ⟨wrap_in (by omega) (by omega)⟩
    have w3 : Aside0 (wrap64 (v + 1 + 1 + 1) = v + 3) := ⟨(wrap_in (by omega) (by omega)).trans (by omega)⟩
    have w4 : Aside0 (wrap64 ((i : Int) + 1) = ((i + 1 : Nat) : Int)) := ⟨(wrap_in (by omega) (by omega)).trans (by omega)⟩
    have hm := markText_ev (v + 1 + 1) (by omega)
    have key : ∀ x' : List S49, x'.length = n → ∃ y, Ev (fun k => laws_markEntryS.l0 k x' (v + 3) ((i + 1 : Nat) : Int)) (v + 3 * ((d + 1 : Nat) : Int), y) := fun x' hx' => by
      have := ih (i + 1) x' (v + 3) (by omega) hx' (by omega) (by omega)
      rw [show v + 3 + 3 * (d : Int) = v + 3 * ((d + 1 : Nat) : Int) by omega] at this
      exact this
    obtain ⟨y, hy⟩ := key (markStep x i v (markT (v + 1 + 1))) (by unfold markStep markStep3 markStep2 markStep1; simp only [List.length_set]; exact hx)
    refine ⟨y, ev_succ ?_⟩
    simp only [laws_markEntryS.l0, w1.out, w2.out, w3.out, w4.out, Option.bind_some, Int.toNat_natCast]
    exact ev_if_pos (by omega) (ev_if_pos (by omega) (ev_bind hm hy))
theorem markState_ev (a b : Int) (l : List S49) (v : Int) (hl : l.length ≤ 10000000) (h0 : 0 ≤ v) (h1 : v ≤ 100000000) : ∃ y, Ev (fun k => laws_markState.f k a b l v) (v + 3 * (l.length : Int), y) := by
  obtain ⟨y, hy⟩ := markEntryS_from l.length hl l.length 0 l v (by omega) rfl h0 (by omega)
  refine ⟨y, ?_⟩
  unfold laws_markState.f laws_markEntryS.f
  exact ev_bind hy (ev_some _)

/-- What the program's number writes. -/
theorem number_from (m : Nat) (hm : m ≤ 1000) (i : Nat) : ∀ (n : Int) (x : List Int), i ≤ m → x.length = m → Ev (fun k => impl_number.l0 k n x ((i : Int) - 1)) (strOfNums (BE n i ++ x.drop i)) := by
  induction i with
  | zero =>
    intro n x hi hx
    refine ev_succ (ev_of_eq fun k => ?_)
    simp only [impl_number.l0]
    rw [if_neg (by omega)]
    rfl
  | succ i ih =>
    intro n x hi hx
    have h := ih (n / 256) (x.set i (n % 256)) (by omega) (by rw [List.length_set, hx])
    have he : BE (n / 256) i ++ (x.set i (n % 256)).drop i = BE n (i + 1) ++ x.drop (i + 1) := by
      have hd : (x.set i (n % 256)).drop i = (n % 256) :: x.drop (i + 1) := by
        rw [List.drop_eq_getElem_cons (by rw [List.length_set]; omega), List.getElem_set_self, List.drop_set_of_lt (by omega)]
      rw [hd, BE, List.append_assoc]
      rfl
    rw [he] at h
    refine ev_succ (ev_congr (fun k => ?_) h)
    simp only [impl_number.l0]
    rw [show (((i + 1 : Nat) : Int) - 1) = (i : Int) from by omega, if_pos (by omega), if_pos (by omega), if_pos (by omega), Int.toNat_natCast, wrap_in (x := (i : Int) - 1) (by omega) (by omega)]
theorem number_ev (n : Int) (m : Nat) (hm : m ≤ 1000) : Ev (fun k => impl_number.f k n (m : Int)) (strOfNums (BE n m)) := by
  have h := number_from m hm m n (List.replicate m 0) (Nat.le_refl _) (by simp)
  rw [List.drop_of_length_le (by simp), List.append_nil] at h
  refine ev_congr (fun k => ?_) h
  unfold impl_number.f
  rw [if_pos (by omega), if_pos (by omega), Int.toNat_natCast, wrap_in (by omega) (by omega)]

theorem BEl4 (n : Int) : BE n 4 = [n / 256 / 256 / 256 % 256, n / 256 / 256 % 256, n / 256 % 256, n % 256] := rfl
theorem four_is (c : Int) : spec_l02Four.f c = some (BE c 4) := by
  unfold spec_l02Four.f
  rw [BEl4]
  congr 1
  have e1 : c / 16777216 = c / 256 / 256 / 256 := by omega
  have e2 : c / 65536 = c / 256 / 256 := by omega
  rw [e1, e2]
/-- The bytes of an entry. -/
def ebytes (a b : Int) (s : ByteArray) : ByteArray := strOfNums (BE a 4) ++ strOfNums (BE b 1) ++ (strOfNums (BE (s.size : Int) 1) ++ s)
theorem ebytes_size (a b : Int) (s : ByteArray) : (ebytes a b s).size = 6 + s.size := by
  unfold ebytes
  simp only [ByteArray.size_append, size_strOfNums, BE_length]
  omega
theorem impl_ebytes (a b : Int) (s : ByteArray) (hs : s.size ≤ 1048576) : Ev (fun k => impl_Entry_bytes.f k a b s) (ebytes a b s) := by
  unfold impl_Entry_bytes.f impl_counted.f
  have h4 := number_ev a 4 (by omega)
  have h1 := number_ev b 1 (by omega)
  have hc := number_ev (s.size : Int) 1 (by omega)
  refine ev_bind h4 (ev_bind h1 (ev_if_pos (by simp only [size_strOfNums, BE_length]; omega) (ev_bind (ev_bind hc (ev_if_pos (by simp only [size_strOfNums, BE_length]; omega) (ev_some _))) (ev_if_pos (by simp only [ByteArray.size_append, size_strOfNums, BE_length]; omega) (ev_some _)))))
theorem spec_ebytes (a b : Int) (s : ByteArray) (hs : s.size ≤ 1048576) : ∃ l : List Int, spec_l02EntryBytes.f a b s = some l ∧ strOfNums l = ebytes a b s ∧ l.length = 6 + s.size := by
  unfold spec_l02EntryBytes.f
  rw [if_pos (by omega), four_is]
  refine ⟨_, rfl, ?_, ?_⟩
  · rw [strOfNums_append, strOfNums_bytesOf]
    unfold ebytes
    rw [← ByteArray.append_assoc, ← strOfNums_append, ← strOfNums_append, IntKind.wrap_u8, IntKind.wrap_u8, List.append_assoc]
    rfl
  · rw [List.length_append, bytesOf_length, List.length_append, BE_length]
    rfl

/-- Both find the same number of first entries that are alike. -/
theorem first_both (l m : List S49) (hl : l.length ≤ 1048576) (hm : m.length ≤ 1048576) (t v t' v' : Int) (acc : List ByteArray) (d : Nat) : ∀ i : Nat, i + d = l.length → i ≤ m.length →
    ∃ n : Nat, n ≤ l.length ∧ n ≤ m.length ∧ Ev (fun k => impl_sameFirst.l0 k l m (i : Int)) (n : Int) ∧ ∀ R, Ev (fun k => spec_l05Records.j3 k acc (n : Int) t v l t' v' m) R → Ev (fun k => spec_l05Records.l0 k acc (i : Int) t v l t' v' m) R := by
  induction d with
  | zero =>
    intro i hi him
    refine ⟨i, by omega, him, ev_succ ?_, fun R hR => ev_succ ?_⟩
    · simp only [impl_sameFirst.l0]
      exact ev_if_neg (by unfold mn; split <;> omega) (ev_some _)
    · simp only [spec_l05Records.l0]
      exact ev_if_neg (by omega) hR
  | succ d ih =>
    intro i hi him
    have hi1 : (i : Int) < (l.length : Int) := by omega
    have hi0 : 0 ≤ (i : Int) := by omega
    by_cases hi2 : (i : Int) < (m.length : Int)
    · have hmn : (i : Int) < mn (l.length : Int) (m.length : Int) := by unfold mn; split <;> omega
      have hw : Aside0 (wrap64 ((i : Int) + 1) = ((i + 1 : Nat) : Int)) := ⟨by rw [wrap_in (by omega) (by omega)]; omega⟩
      by_cases c : (((rd_T49 l (i : Int)).f0) == ((rd_T49 m (i : Int)).f0) && (((rd_T49 l (i : Int)).f1) == ((rd_T49 m (i : Int)).f1) && ((((rd_T49 l (i : Int)).f2).toList) == (((rd_T49 m (i : Int)).f2).toList)))) = true
      · obtain ⟨n, h1, h2, h3, h4⟩ := ih (i + 1) (by omega) (by omega)
        refine ⟨n, h1, h2, ev_succ ?_, fun R hR => ev_succ ?_⟩
        · simp only [impl_sameFirst.l0, hw.out]
          exact ev_if_pos hmn (ev_if_pos hi0 (ev_if_pos hi1 (ev_if_pos hi2 (ev_if_pos c h3))))
        · simp only [spec_l05Records.l0, hw.out]
          exact ev_if_pos hi1 (ev_if_pos hi2 (ev_if_pos hi0 (ev_if_pos c (h4 R hR))))
      · refine ⟨i, by omega, by omega, ev_succ ?_, fun R hR => ev_succ ?_⟩
        · simp only [impl_sameFirst.l0]
          exact ev_if_pos hmn (ev_if_pos hi0 (ev_if_pos hi1 (ev_if_pos hi2 (ev_if_neg c (ev_some _)))))
        · simp only [spec_l05Records.l0]
          exact ev_if_pos hi1 (ev_if_pos hi2 (ev_if_pos hi0 (ev_if_neg c hR)))
    · refine ⟨i, by omega, by omega, ev_succ ?_, fun R hR => ev_succ ?_⟩
      · simp only [impl_sameFirst.l0]
        exact ev_if_neg (by unfold mn; split <;> omega) (ev_some _)
      · simp only [spec_l05Records.l0]
        exact ev_if_pos hi1 (ev_if_neg hi2 hR)
theorem rd_drop_T (m : List S49) (n i : Nat) : rd_T49 (m.drop n) (i : Int) = rd_T49 m ((n + i : Nat) : Int) := by
  unfold rd_T49
  rw [Int.toNat_natCast, Int.toNat_natCast, List.getD_eq_getElem?_getD, List.getD_eq_getElem?_getD, List.getElem?_drop]
/-- The entries behind: both write the same. -/
theorem rest_both (m : List S49) (hm : m.length ≤ 1048576) (hB : ∀ x ∈ m, x.f2.size ≤ 1048576) (t' v' : Int) (n : Nat) (hn : n ≤ m.length) (d : Nat) : ∀ (i : Nat) (acc : List ByteArray), n + i + d = m.length → acc.length ≤ 10 + i →
    ∃ R, Ev (fun k => impl_stateRecords.l0 k acc (m.drop n) ((m.drop n).length : Int) (i : Int)) R ∧ Ev (fun k => spec_l05Records.l1 k acc ((n + i : Nat) : Int) t' v' m) R ∧ R.length ≤ 10 + m.length := by
  have hdl : (m.drop n).length = m.length - n := List.length_drop
  induction d with
  | zero =>
    intro i acc hi ha
    refine ⟨acc, ev_succ ?_, ev_succ ?_, by omega⟩
    · simp only [impl_stateRecords.l0]
      exact ev_if_neg (by omega) (ev_some _)
    · simp only [spec_l05Records.l1]
      exact ev_if_neg (by omega) (ev_some _)
  | succ d ih =>
    intro i acc hi ha
    have hmem : rd_T49 m ((n + i : Nat) : Int) ∈ m := by
      unfold rd_T49
      rw [Int.toNat_natCast, List.getD_eq_getElem?_getD, List.getElem?_eq_getElem (by omega), Option.getD_some]
      exact List.getElem_mem _
    have hsz := hB _ hmem
    have hrd := rd_drop_T m n i
    obtain ⟨x, hx⟩ : ∃ x, rd_T49 m ((n + i : Nat) : Int) = x := ⟨_, rfl⟩
    rw [hx] at hsz hrd
    obtain ⟨bl, hb1, hb2, hb3⟩ := spec_ebytes x.f0 x.f1 x.f2 hsz
    have hi1 := impl_ebytes x.f0 x.f1 x.f2 hsz
    have hes := ebytes_size x.f0 x.f1 x.f2
    have w1 : Aside0 (wrap64 ((i : Int) + 1) = ((i + 1 : Nat) : Int)) := ⟨by rw [wrap_in (by omega) (by omega)]; omega⟩
    have w2 : Aside0 (wrap64 (((n + i : Nat) : Int) + 1) = ((n + (i + 1) : Nat) : Int)) := ⟨by rw [wrap_in (by omega) (by omega)]; omega⟩
    obtain ⟨R, h1, h2, h3⟩ := ih (i + 1) (acc ++ [(⟨#[69]⟩ : ByteArray) ++ ebytes x.f0 x.f1 x.f2]) (by omega) (by rw [List.length_append]; simp only [List.length_cons, List.length_nil]; omega)
    refine ⟨R, ev_succ ?_, ev_succ ?_, h3⟩
    · simp only [impl_stateRecords.l0, hrd, w1.out]
      exact ev_if_pos (by omega) (ev_if_pos (by omega) (ev_if_pos (by omega) (ev_bind hi1 (ev_if_pos (by omega) (ev_if_pos (by omega) h1)))))
    · simp only [spec_l05Records.l1, hx, hb1, hb2, w2.out, Option.bind_some]
      exact ev_if_pos (by omega) (ev_if_pos (by omega) (ev_if_pos (by omega) (ev_if_pos (by omega) h2)))
theorem records_both (t v : Int) (l : List S49) (hl : l.length ≤ 1048576) (t' v' : Int) (hv : -9223372036854775808 ≤ v' ∧ v' ≤ 1000000) (m : List S49) (hm : m.length ≤ 1048576) (hB : ∀ x ∈ m, x.f2.size ≤ 1048576) :
    ∃ R, Ev (fun k => spec_l05Records.f k t v l t' v' m) R ∧ Ev (fun k => impl_stateRecords.f k t v l t' v' m) R ∧ R.length ≤ 2000000 := by
  have step : ∀ acc : List ByteArray, acc.length ≤ 1 → ∃ R, Ev (fun k => spec_l05Records.j1 k acc t v l t' v' m) R ∧ (∀ n : Int, Ev (fun k => impl_sameFirst.f k l m) n → Ev (fun k => impl_stateRecords.j1 k acc n t v l t' v' m) R) ∧ R.length ≤ 2000000 := by
    intro acc ha
    obtain ⟨n, hn1, hn2, h3, h4⟩ := first_both l m hl hm t v t' v' acc l.length 0 (by omega) (by omega)
    have hf : Ev (fun k => impl_sameFirst.f k l m) (n : Int) := h3
    have h4n := number_ev (n : Int) 4 (by omega)
    have go : ∀ acc' : List ByteArray, acc'.length ≤ 10 → ∃ R, Ev (fun k => spec_l05Records.j4 k acc' (n : Int) t' v' m) R ∧ Ev (fun k => impl_stateRecords.j2 k acc' (n : Int) t' v' m) R ∧ R.length ≤ 2000000 := by
      intro acc' ha'
      obtain ⟨R, r1, r2, r3⟩ := rest_both m hm hB t' v' n hn2 (m.length - n) 0 acc' (by omega) (by omega)
      refine ⟨R, ev_succ ?_, ev_succ ?_, by omega⟩
      · simp only [spec_l05Records.j4]
        exact r2
      · simp only [impl_stateRecords.j2, Option.bind_some, Int.toNat_natCast]
        exact ev_if_pos (by omega) (ev_if_pos (by omega) r1)
    by_cases hc : n < l.length
    · obtain ⟨R, r1, r2, r3⟩ := go (acc ++ [(⟨#[67]⟩ : ByteArray) ++ strOfNums (BE (n : Int) 4)]) (by rw [List.length_append]; simp only [List.length_cons, List.length_nil]; omega)
      refine ⟨R, ev_succ ?_, fun n' hn' => ?_, r3⟩
      · simp only [spec_l05Records.j1]
        refine h4 R (ev_succ ?_)
        simp only [spec_l05Records.j3, four_is, Option.bind_some]
        exact ev_if_pos (by omega) (ev_if_pos (by simp only [size_strOfNums, BE_length]; omega) (ev_if_pos (by omega) r1))
      · obtain rfl := ev_unique hn' hf
        refine ev_succ ?_
        simp only [impl_stateRecords.j1]
        exact ev_if_pos (by omega) (ev_bind h4n (ev_if_pos (by simp only [size_strOfNums, BE_length]; omega) (ev_if_pos (by omega) r2)))
    · obtain ⟨R, r1, r2, r3⟩ := go acc (by omega)
      refine ⟨R, ev_succ ?_, fun n' hn' => ?_, r3⟩
      · simp only [spec_l05Records.j1]
        refine h4 R (ev_succ ?_)
        simp only [spec_l05Records.j3]
        exact ev_if_neg (by omega) r1
      · obtain rfl := ev_unique hn' hf
        refine ev_succ ?_
        simp only [impl_stateRecords.j1]
        exact ev_if_neg (by omega) r2
  obtain ⟨n, _, _, hf0, _⟩ := first_both l m hl hm t v t' v' [] l.length 0 (by omega) (by omega)
  have hf : Ev (fun k => impl_sameFirst.f k l m) (n : Int) := hf0
  have head : ∀ b : Bool, ∃ R, Ev (fun k => spec_l05Records.j0 k [] b t v l t' v' m) R ∧ Ev (fun k => impl_stateRecords.j0 k [] (n : Int) b t v l t' v' m) R ∧ R.length ≤ 2000000 := by
    intro b
    cases b with
    | false =>
      obtain ⟨R, r1, r2, r3⟩ := step [] (by simp)
      refine ⟨R, ev_succ ?_, ev_succ ?_, r3⟩
      · simp only [spec_l05Records.j0]
        exact ev_if_neg (by simp) r1
      · simp only [impl_stateRecords.j0]
        exact ev_if_neg (by simp) (r2 _ hf)
    | true =>
      have w : Aside0 (wrap64 (v' + 1) = v' + 1) := ⟨wrap_in (by omega) (by omega)⟩
      have h4 := number_ev t' 4 (by omega)
      have h1 := number_ev (v' + 1) 1 (by omega)
      obtain ⟨R, r1, r2, r3⟩ := step ([] ++ [(⟨#[84]⟩ : ByteArray) ++ strOfNums (BE t' 4) ++ strOfNums (BE (v' + 1) 1)]) (by simp)
      refine ⟨R, ev_succ ?_, ev_succ ?_, r3⟩
      · simp only [spec_l05Records.j0, four_is, w.out, Option.bind_some]
        exact ev_if_pos trivial (ev_if_pos (by simp only [size_strOfNums, BE_length]; omega) (ev_if_pos (by simp only [size_strOfNums, BE_length, List.length_cons, List.length_nil]; omega) (ev_if_pos (by simp) r1)))
      · simp only [impl_stateRecords.j0, w.out]
        exact ev_if_pos trivial (ev_bind h4 (ev_if_pos (by simp only [size_strOfNums, BE_length]; omega) (ev_bind h1 (ev_if_pos (by simp only [size_strOfNums, BE_length]; omega) (ev_if_pos (by simp) (r2 _ hf))))))
  unfold spec_l05Records.f impl_stateRecords.f
  simp only [Option.bind_some]
  by_cases hc : t = t'
  · obtain ⟨R, r1, r2, r3⟩ := head (v != v')
    exact ⟨R, ev_if_pos hc r1, ev_bind hf (ev_if_pos hc r2), r3⟩
  · obtain ⟨R, r1, r2, r3⟩ := head true
    exact ⟨R, ev_if_neg hc r1, ev_bind hf (ev_if_neg hc r2), r3⟩
theorem vote_of_ok (t v : Int) (l : List S49) (h : Ev (fun k => impl_StateOK.f k t v l) true) : v ≤ 6 := by
  obtain ⟨K, hK⟩ := h
  have := hK K (Nat.le_refl _)
  by_cases hv : v ≤ 6
  · exact hv
  · exfalso
    unfold impl_StateOK.f impl_within.f at this
    revert this
    split
    · simp only [Option.bind_some]
      split
      · split
        · simp only [Option.bind_some]
          rw [decide_eq_false hv]
          simp
        · simp
      · simp
    · simp
theorem state_both (t v : Int) (hv : -9223372036854775808 ≤ v) (l : List S49) (hl : l.length ≤ 1048576) (hB : ∀ x ∈ l, x.f2.size ≤ 1048576) (t' v' : Int) (hv' : -9223372036854775808 ≤ v') (m : List S49) (hm : m.length ≤ 1048576) (hB' : ∀ x ∈ m, x.f2.size ≤ 1048576) :
    ∃ (R : List ByteArray) (e : Int), Ev (fun k => spec_StateRecords.f k t v l t' v' m) (R, e) ∧ Ev (fun k => impl_StateRecords.f k t v l t' v' m) (R, e) ∧ R.length ≤ 2000000 := by
  obtain ⟨r, hs, hi⟩ := state_same t v l hl (fun x hx => by have := hB x hx; omega)
  obtain ⟨r', hs', hi'⟩ := state_same t' v' m hm (fun x hx => by have := hB' x hx; omega)
  unfold spec_StateRecords.f impl_StateRecords.f
  cases r with
  | false => exact ⟨[], 1, ev_bind hs (ev_if_neg (by simp) (ev_some _)), ev_bind hi (ev_if_neg (by simp) (ev_some _)), by simp⟩
  | true =>
    cases r' with
    | false => exact ⟨[], 1, ev_bind hs (ev_if_pos rfl (ev_bind hs' (ev_if_neg (by simp) (ev_some _)))), ev_bind hi (ev_if_pos rfl (ev_bind hi' (ev_if_neg (by simp) (ev_some _)))), by simp⟩
    | true =>
      have hv6 := vote_of_ok t' v' m hi'
      obtain ⟨R, h1, h2, h3⟩ := records_both t v l hl t' v' ⟨hv', by omega⟩ m hm hB'
      exact ⟨R, 0, ev_bind hs (ev_if_pos rfl (ev_bind hs' (ev_if_pos rfl (ev_bind h1 (ev_some _))))), ev_bind hi (ev_if_pos rfl (ev_bind hi' (ev_if_pos rfl (ev_bind h2 (ev_some _))))), h3⟩
theorem FnExactStateRecords : laws_FnExactStateRecords.Pure := by
  intro a b l a' b' l' _ hwb hg _ hwb' hg'
  refine Ev.rounds (r := true) ?_
  unfold laws_FnExactStateRecords.f
  have hb : -9223372036854775808 ≤ b := by
    simp only [Lit.wf, Bool.and_eq_true, decide_eq_true_eq] at hwb
    have h1 : IntKind.i64.min = -9223372036854775808 := rfl
    omega
  have hb' : -9223372036854775808 ≤ b' := by
    simp only [Lit.wf, Bool.and_eq_true, decide_eq_true_eq] at hwb'
    have h1 : IntKind.i64.min = -9223372036854775808 := rfl
    omega
  obtain ⟨s, hs, hh⟩ := szState_ev a b l hg 1048576 (by omega) (by omega)
  refine ev_bind hs ?_
  by_cases hneg : s < 0
  · exact ev_if_pos hneg (ev_some _)
  obtain ⟨h0, hl, hle, hB⟩ := hh.resolve_left (by omega)
  refine ev_if_neg hneg ?_
  obtain ⟨s', hs', hh'⟩ := szState_ev a' b' l' hg' s h0 (by omega)
  refine ev_bind hs' ?_
  by_cases hneg' : s' < 0
  · exact ev_if_pos hneg' (ev_some _)
  obtain ⟨h0', hl', hle', hB'⟩ := hh'.resolve_left (by omega)
  refine ev_if_neg hneg' ?_
  have ht := toState_ev a b l (by omega)
  have ht' := toState_ev a' b' l' (by omega)
  have hml : (l.map convEntry).length = l.length := List.length_map _
  have hml' : (l'.map convEntry).length = l'.length := List.length_map _
  obtain ⟨R, e, h1, h2, h3⟩ := state_both a b hb (l.map convEntry) (by omega) (conv_bound l 1048576 (by omega) hB) a' b' hb' (l'.map convEntry) (by omega) (conv_bound l' s (by omega) hB')
  have he := eqState_ev a b (l.map convEntry) (by omega)
  have he' := eqState_ev a' b' (l'.map convEntry) (by omega)
  have hq := eqStringS_ev R (by omega)
  have hk := markStringS_ev R (by omega)
  have hd := heldStringS_ev R.length (by omega)
  obtain ⟨y, hy⟩ := markState_ev a b (l.map convEntry) 1 (by omega) (by omega) (by omega)
  obtain ⟨y', hy'⟩ := markState_ev a' b' (l'.map convEntry) (1 + 3 * ((l.map convEntry).length : Int)) (by omega) (by omega) (by omega)
  refine ev_bind ht (ev_bind ht' (ev_bind h1 (ev_bind ht (ev_bind ht' (ev_bind h2 (ev_bind hq (ev_if_pos (by first | rfl | trivial) (ev_succ ?_))))))))
  simp only [laws_FnExactStateRecords.j0]
  refine ev_if_neg (by simp) (ev_bind ht (ev_bind he (ev_if_pos (by first | rfl | trivial) (ev_bind ht' (ev_bind he' (ev_if_pos (by first | rfl | trivial) (ev_bind hy (ev_bind hy' (ev_if_neg (by simp only; omega) (ev_bind hq (ev_if_pos (by first | rfl | trivial) (ev_succ ?_))))))))))))
  simp only [laws_FnExactStateRecords.j1]
  refine ev_if_neg (by simp) (ev_bind hk (ev_bind hd (ev_if_neg (by omega) (ev_if_pos (by first | rfl | trivial) (ev_bind ht (ev_bind ht' (ev_bind h2 (ev_bind hq (ev_if_pos (by first | rfl | trivial) (ev_succ ?_))))))))))
  simp only [laws_FnExactStateRecords.j2]
  exact ev_if_neg (by simp) (ev_bind hd (ev_if_neg (by omega) (ev_if_pos (by first | rfl | trivial) (ev_some _))))
end Go.Proofs.Ytbkgjjiceldjeaa.Pure
