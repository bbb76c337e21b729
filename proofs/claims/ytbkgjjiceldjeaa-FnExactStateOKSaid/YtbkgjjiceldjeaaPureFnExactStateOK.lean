/- StateOK answers as the reference's at every state: the plain form. No conditions. -/
import Derived.Test.YtbkgjjiceldjeaaQFnExactStateOK
import Derived.Test.YtbkgjjiceldjeaaU
namespace Go.Proofs.Ytbkgjjiceldjeaa.Pure
open Go.RowKit Go.Proofs.Ytbkgjjiceldjeaa.PFnExactStateOK Go.Proofs.YtbkgjjiceldjeaaW.PrintWords Go.Proofs.YtbkgjjiceldjeaaW.PrintLast Go.Proofs.YtbkgjjiceldjeaaW.PrintMore Go.Proofs.Ytbkgjjiceldjeaa.U
/-- What members' data must be, up to place n. -/
def okTo (s : ByteArray) : Nat → Bool
  | 0 => true
  | n + 1 => okTo s n && decide (bt s (n : Int) ≤ 6) && (decide (n = 0) || decide (bt s ((n : Int) - 1) < bt s (n : Int)))
def mOK (s : ByteArray) : Bool := decide (0 < s.size) && okTo s s.size
theorem okTo_mono (s : ByteArray) (a b : Nat) (h : a ≤ b) (hb : okTo s b = true) : okTo s a = true := by
  induction b with
  | zero => obtain rfl : a = 0 := by omega
            exact hb
  | succ b ih =>
    rcases Nat.lt_or_ge b a with hlt | hge
    · obtain rfl : a = b + 1 := by omega
      exact hb
    · simp only [okTo, Bool.and_eq_true] at hb
      exact ih hge hb.1.1
theorem byte_wrap (s : ByteArray) (i : Int) : wrap64 (bt s i) = bt s i := by
  have := bt_range s i
  exact wrap_in (by omega) (by omega)
theorem snoc_bytes (s : ByteArray) (n : Nat) (h : n < s.size) : (bytesOf s).take n ++ [bt s (n : Int)] = (bytesOf s).take (n + 1) := by
  have hl := bytesOf_length s
  rw [List.take_succ_eq_append_getElem (by omega), ← rd_bytesOf]
  unfold rd
  rw [Int.toNat_natCast, List.getD_eq_getElem?_getD, List.getElem?_eq_getElem (by omega), Option.getD_some]
theorem spec_members (s : ByteArray) (hs : s.size ≤ 1048576) (d : Nat) : ∀ n : Nat, n + d = s.size → okTo s n = true →
    Ev (fun k => spec_l02Members.l0 k s ((bytesOf s).take n) (n : Int)) (if mOK s then bytesOf s else (if okTo s s.size then bytesOf s else []), mOK s) := by
  have hl := bytesOf_length s
  induction d with
  | zero =>
    intro n hn ho
    obtain rfl : n = s.size := by omega
    refine ev_succ (ev_of_eq fun k => ?_)
    simp only [spec_l02Members.l0]
    rw [if_neg (by omega), List.take_of_length_le (by omega), ho]
    have e : mOK s = decide (((bytesOf s).length : Int) > 0) := by
      unfold mOK
      rw [ho, Bool.and_true, hl]
      rw [Bool.eq_iff_iff]; simp
    rw [e]
    split <;> rfl
  | succ d ih =>
    intro n hn ho
    have hb := bt_range s (n : Int)
    have hlt : ((bytesOf s).take n).length < 17592186044416 := by rw [List.length_take]; omega
    have hin : spec_l01In.f (bt s (n : Int)) 0 6 = some (decide (bt s (n : Int) ≤ 6)) := by unfold spec_l01In.f; rw [if_pos hb.1]
    have hbad : okTo s (n + 1) = false → mOK s = false ∧ okTo s s.size = false := by
      intro h
      have : okTo s s.size = false := by
        rw [Bool.eq_false_iff]
        intro ht
        rw [okTo_mono s (n + 1) s.size (by omega) ht] at h
        exact Bool.noConfusion h
      exact ⟨by unfold mOK; rw [this, Bool.and_false], this⟩
    by_cases h6 : bt s (n : Int) ≤ 6
    · by_cases hn0 : n = 0
      · subst hn0
        have hok : okTo s (0 + 1) = true := by simp [okTo]; exact h6
        refine ev_succ (ev_congr (fun k => ?_) (ih (0 + 1) (by omega) hok))
        simp only [spec_l02Members.l0, byte_wrap, hin, Option.bind_some]
        rw [if_pos (by omega), if_pos (by omega), if_pos (by simpa using h6), if_neg (by omega), if_pos hlt, snoc_bytes s 0 (by omega), wrap_in (by omega) (by omega)]
        rfl
      · have hp : wrap64 ((n : Int) - 1) = (n : Int) - 1 := wrap_in (by omega) (by omega)
        by_cases hr : bt s ((n : Int) - 1) < bt s (n : Int)
        · have hok : okTo s (n + 1) = true := by simp [okTo, ho, h6, hr]
          refine ev_succ (ev_congr (fun k => ?_) (ih (n + 1) (by omega) hok))
          simp only [spec_l02Members.l0, byte_wrap, hin, Option.bind_some, hp]
          rw [if_pos (by omega), if_pos (by omega), if_pos (by simpa using h6), if_pos (by omega), if_pos (by omega), if_pos (by omega), if_neg (by omega), if_pos hlt, snoc_bytes s n (by omega), wrap_in (by omega) (by omega)]
          rfl
        · have hok : okTo s (n + 1) = false := by simp [okTo, ho, h6, hr, hn0]
          obtain ⟨h1, h2⟩ := hbad hok
          refine ev_succ (ev_of_eq fun k => ?_)
          simp only [spec_l02Members.l0, byte_wrap, hin, Option.bind_some, hp]
          rw [if_pos (by omega), if_pos (by omega), if_pos (by simpa using h6), if_pos (by omega), if_pos (by omega), if_pos (by omega), if_pos (by omega), h1, h2]
          rfl
    · have hok : okTo s (n + 1) = false := by simp [okTo, h6]
      obtain ⟨h1, h2⟩ := hbad hok
      refine ev_succ (ev_of_eq fun k => ?_)
      simp only [spec_l02Members.l0, byte_wrap, hin, Option.bind_some]
      rw [if_pos (by omega), if_pos (by omega), if_neg (by simpa using h6), h1, h2]
      rfl
/-- The numbers rise, up to place n. -/
def riseTo (s : ByteArray) : Nat → Bool
  | 0 => true
  | n + 1 => riseTo s n && (decide (n = 0) || decide (bt s ((n : Int) - 1) < bt s (n : Int)))
def smallTo (s : ByteArray) : Nat → Bool
  | 0 => true
  | n + 1 => smallTo s n && decide (bt s (n : Int) ≤ 6)
theorem okTo_eq (s : ByteArray) (n : Nat) : okTo s n = (smallTo s n && riseTo s n) := by
  induction n with
  | zero => rfl
  | succ n ih =>
    simp only [okTo, smallTo, riseTo, ih]
    cases smallTo s n <;> cases riseTo s n <;> cases decide (bt s (n : Int) ≤ 6) <;> simp
theorem riseTo_mono (s : ByteArray) (a b : Nat) (h : a ≤ b) (hb : riseTo s b = true) : riseTo s a = true := by
  induction b with
  | zero => obtain rfl : a = 0 := by omega
            exact hb
  | succ b ih =>
    rcases Nat.lt_or_ge b a with hlt | hge
    · obtain rfl : a = b + 1 := by omega
      exact hb
    · simp only [riseTo, Bool.and_eq_true] at hb
      exact ih hge hb.1
theorem numbers_eq (s : ByteArray) : impl_areNumbers.f (bytesOf s) = some (smallTo s s.size) := by
  have hl := bytesOf_length s
  have key : ∀ n : Nat, n ≤ s.size → (!(((bytesOf s).take n).any impl_areNumbers.p)) = smallTo s n := by
    intro n
    induction n with
    | zero => intro _; rfl
    | succ n ih =>
      intro hn
      rw [← snoc_bytes s n (by omega), List.any_append, Bool.not_or, ih (by omega)]
      have hb := bt_range s (n : Int)
      simp only [smallTo, List.any_cons, List.any_nil, Bool.or_false, impl_areNumbers.p, Bool.not_not]
      rw [if_pos hb.1]
  unfold impl_areNumbers.f
  rw [← key s.size (Nat.le_refl _), List.take_of_length_le (by omega)]
theorem rising_ev (s : ByteArray) (hs : s.size ≤ 1048576) (d : Nat) : ∀ n : Nat, 1 ≤ n → n + d = s.size → riseTo s n = true → Ev (fun k => impl_areRising.l0 k (bytesOf s) (n : Int)) (riseTo s s.size) := by
  have hl := bytesOf_length s
  induction d with
  | zero =>
    intro n h1 hn hr
    obtain rfl : n = s.size := by omega
    refine ev_succ (ev_of_eq fun k => ?_)
    simp only [impl_areRising.l0]
    rw [if_neg (by omega), hr]
  | succ d ih =>
    intro n h1 hn hr
    have hp : wrap64 ((n : Int) - 1) = (n : Int) - 1 := wrap_in (by omega) (by omega)
    by_cases hlt : bt s ((n : Int) - 1) < bt s (n : Int)
    · refine ev_succ (ev_congr (fun k => ?_) (ih (n + 1) (by omega) (by omega) (by simp [riseTo, hr, hlt])))
      simp only [impl_areRising.l0, hp, rd_bytesOf]
      rw [if_pos (by omega), if_pos (by omega), if_pos (by omega), if_pos (by omega), if_neg (by omega), wrap_in (by omega) (by omega)]
      rfl
    · have hf : riseTo s s.size = false := by
        rw [Bool.eq_false_iff]
        intro ht
        have := riseTo_mono s (n + 1) s.size (by omega) ht
        simp only [riseTo, Bool.and_eq_true, Bool.or_eq_true, decide_eq_true_eq] at this
        omega
      refine ev_succ (ev_of_eq fun k => ?_)
      simp only [impl_areRising.l0, hp, rd_bytesOf]
      rw [if_pos (by omega), if_pos (by omega), if_pos (by omega), if_pos (by omega), if_pos (by omega), hf]
theorem membersOK_ev (s : ByteArray) (hs : s.size ≤ 1048576) : Ev (fun k => impl_membersOK.f k (bytesOf s)) (mOK s) := by
  have hl := bytesOf_length s
  unfold impl_membersOK.f mOK
  rw [numbers_eq]
  simp only [Option.bind_some]
  by_cases h0 : 0 < s.size
  · refine ev_if_pos (by omega) ?_
    rw [okTo_eq]
    cases hm : smallTo s s.size with
    | false => simp only [Bool.false_and, Bool.and_false]; exact ev_if_neg (by simp) (ev_some _)
    | true =>
      simp only [Bool.true_and]
      rw [decide_eq_true h0, Bool.true_and]
      refine ev_if_pos trivial ?_
      have hr1 : riseTo s 1 = true := by simp [riseTo]
      have := rising_ev s hs (s.size - 1) 1 (Nat.le_refl _) (by omega) hr1
      exact ev_bind (g := fun k => impl_areRising.f k (bytesOf s)) this (ev_some _)
  · rw [decide_eq_false h0, Bool.false_and]
    exact ev_if_neg (by omega) (ev_some _)
theorem spec_l02Members_ev (s : ByteArray) (hs : s.size ≤ 1048576) : ∃ l, Ev (fun k => spec_l02Members.f k s) (l, mOK s) ∧ (mOK s = true → l = bytesOf s) := by
  have := spec_members s hs s.size 0 (by omega) rfl
  exact ⟨_, this, fun h => by rw [if_pos h]⟩

theorem impl_members (s : ByteArray) (hs : s.size ≤ 1048576) (d : Nat) : ∀ n : Nat, n + d = s.size → Ev (fun k => impl_readMembers.l0 k s ((bytesOf s).take n) (s.size : Int) (n : Int)) (bytesOf s, mOK s) := by
  have hl := bytesOf_length s
  induction d with
  | zero =>
    intro n hn
    obtain rfl : n = s.size := by omega
    refine ev_succ (ev_congr (fun k => ?_) (ev_bind (f := fun _ t => some (bytesOf s, t)) (membersOK_ev s hs) (ev_some _)))
    simp only [impl_readMembers.l0]
    rw [if_neg (by omega), List.take_of_length_le (by omega)]
  | succ d ih =>
    intro n hn
    refine ev_succ (ev_congr (fun k => ?_) (ih (n + 1) (by omega)))
    simp only [impl_readMembers.l0, byte_wrap]
    rw [if_pos (by omega), if_pos (by omega), if_pos (by omega), if_pos (by rw [List.length_take]; omega), snoc_bytes s n (by omega), wrap_in (by omega) (by omega)]
    rfl
theorem impl_readMembers_ev (s : ByteArray) (hs : s.size ≤ 1048576) : Ev (fun k => impl_readMembers.f k s) (bytesOf s, mOK s) := by
  have := impl_members s hs s.size 0 (by omega)
  exact this

/-- Whether an entry is right: both say the same. -/
theorem entry_same (a b : Int) (c : ByteArray) (hc : c.size ≤ 1048576) : ∃ r, Ev (fun k => spec_l02Entry.f k a b c) r ∧ Ev (fun k => impl_entryOK.f k a b c) r := by
  unfold spec_l02Entry.f impl_entryOK.f
  have e0 : spec_l01In.f a 1 1000000 = impl_within.f a 1 1000000 := rfl
  rw [e0]
  obtain ⟨q, hq⟩ : ∃ q, impl_within.f a 1 1000000 = some q := by unfold impl_within.f; split <;> exact ⟨_, rfl⟩
  rw [hq]
  simp only [Option.bind_some]
  cases q with
  | false => exact ⟨false, ev_if_neg (by simp) (ev_some _), ev_if_neg (by simp) (ev_some _)⟩
  | true =>
    by_cases b0 : b = 0
    · exact ⟨_, ev_if_pos rfl (ev_if_pos b0 (ev_some _)), ev_if_pos rfl (ev_if_pos b0 (ev_some _))⟩
    · by_cases b1 : b = 1
      · by_cases hs : (c.size : Int) ≥ 1
        · refine ⟨decide ((c.size : Int) ≤ 100), ev_if_pos rfl (ev_if_neg b0 (ev_if_pos b1 (ev_if_pos hs (ev_some _)))), ev_if_pos rfl (ev_if_neg b0 (ev_if_pos b1 ?_))⟩
          have e : impl_within.f (c.size : Int) 1 100 = some (decide ((c.size : Int) ≤ 100)) := by unfold impl_within.f; rw [if_pos hs]
          rw [e]
          exact ev_some _
        · refine ⟨false, ev_if_pos rfl (ev_if_neg b0 (ev_if_pos b1 (ev_if_neg hs (ev_some _)))), ev_if_pos rfl (ev_if_neg b0 (ev_if_pos b1 ?_))⟩
          have e : impl_within.f (c.size : Int) 1 100 = some false := by unfold impl_within.f; rw [if_neg hs]
          rw [e]
          exact ev_some _
      · by_cases b2 : b = 2
        · obtain ⟨l, hl, _⟩ := spec_l02Members_ev c hc
          have hr := impl_readMembers_ev c hc
          exact ⟨mOK c, ev_if_pos rfl (ev_if_neg b0 (ev_if_neg b1 (ev_if_pos b2 (ev_bind hl (ev_some _))))), ev_if_pos rfl (ev_if_neg b0 (ev_if_neg b1 (ev_if_pos b2 (ev_bind hr (ev_some _)))))⟩
        · exact ⟨false, ev_if_pos rfl (ev_if_neg b0 (ev_if_neg b1 (ev_if_neg b2 (ev_some _)))), ev_if_pos rfl (ev_if_neg b0 (ev_if_neg b1 (ev_if_neg b2 (ev_some _))))⟩

/-- From entry i on both come to one answer; the program asks at the end how many there are. -/
theorem log_both (l : List S49) (hl : l.length ≤ 1048576) (hB : ∀ x ∈ l, x.f2.size ≤ 1048576) (t v : Int) (d : Nat) : ∀ i : Nat, i + d = l.length →
    ∃ b, Ev (fun k => spec_StateOK.l0 k (i : Int) t v l) b ∧ Ev (fun k => impl_logOK.l0 k l t l (l.length : Int) (i : Int)) (b && decide ((l.length : Int) ≤ 60)) := by
  induction d with
  | zero =>
    intro i hi
    refine ⟨true, ev_succ (ev_of_eq fun k => ?_), ev_succ (ev_of_eq fun k => ?_)⟩
    · simp only [spec_StateOK.l0]; rw [if_neg (by omega)]
    · simp only [impl_logOK.l0]; rw [if_neg (by omega), Bool.true_and]
  | succ d ih =>
    intro i hi
    have hi1 : (i : Int) < (l.length : Int) := by omega
    have hi0 : 0 ≤ (i : Int) := by omega
    have hw : wrap64 ((i : Int) + 1) = ((i + 1 : Nat) : Int) := by rw [wrap_in (by omega) (by omega)]; omega
    have hp : wrap64 ((i : Int) - 1) = (i : Int) - 1 := wrap_in (by omega) (by omega)
    have hmem : rd_T49 l (i : Int) ∈ l := by
      unfold rd_T49
      rw [Int.toNat_natCast, List.getD_eq_getElem?_getD, List.getElem?_eq_getElem (by omega), Option.getD_some]
      exact List.getElem_mem _
    have hsz := hB _ hmem
    obtain ⟨b, hs, hm⟩ := ih (i + 1) (by omega)
    generalize hx : rd_T49 l (i : Int) = x at *
    obtain ⟨r, h1, h2⟩ := entry_same x.f0 x.f1 x.f2 hsz
    cases r with
    | false =>
      refine ⟨false, ev_succ ?_, ev_succ ?_⟩
      · simp only [spec_StateOK.l0, hx]
        exact ev_if_pos hi1 (ev_if_pos hi0 (ev_bind h1 (ev_if_neg (by simp) (ev_some _))))
      · simp only [impl_logOK.l0, hx]
        exact ev_if_pos hi1 (ev_if_pos hi0 (ev_if_pos hi1 (ev_bind h2 (ev_if_neg (by simp) (ev_some _)))))
    | true =>
      by_cases c1 : x.f0 > t
      · refine ⟨false, ev_succ ?_, ev_succ ?_⟩
        · simp only [spec_StateOK.l0, hx]
          exact ev_if_pos hi1 (ev_if_pos hi0 (ev_bind h1 (ev_if_pos rfl (ev_if_pos c1 (ev_some _)))))
        · simp only [impl_logOK.l0, hx]
          exact ev_if_pos hi1 (ev_if_pos hi0 (ev_if_pos hi1 (ev_bind h2 (ev_if_pos rfl (ev_if_pos c1 (ev_some _))))))
      · by_cases c2 : (i : Int) > 0
        · by_cases c3 : (rd_T49 l ((i : Int) - 1)).f0 > x.f0
          · refine ⟨false, ev_succ ?_, ev_succ ?_⟩
            · simp only [spec_StateOK.l0, hx, hp]
              exact ev_if_pos hi1 (ev_if_pos hi0 (ev_bind h1 (ev_if_pos rfl (ev_if_neg c1 (ev_if_pos c2 (ev_if_pos (by omega) (ev_if_pos (by omega) (ev_if_pos c3 (ev_some _)))))))))
            · simp only [impl_logOK.l0, hx, hp]
              exact ev_if_pos hi1 (ev_if_pos hi0 (ev_if_pos hi1 (ev_bind h2 (ev_if_pos rfl (ev_if_neg c1 (ev_if_pos c2 (ev_if_pos (by omega) (ev_if_pos (by omega) (ev_if_pos c3 (ev_some _))))))))))
          · refine ⟨b, ev_succ ?_, ev_succ ?_⟩
            · simp only [spec_StateOK.l0, hx, hp, hw]
              exact ev_if_pos hi1 (ev_if_pos hi0 (ev_bind h1 (ev_if_pos rfl (ev_if_neg c1 (ev_if_pos c2 (ev_if_pos (by omega) (ev_if_pos (by omega) (ev_if_neg c3 hs))))))))
            · simp only [impl_logOK.l0, hx, hp, hw]
              exact ev_if_pos hi1 (ev_if_pos hi0 (ev_if_pos hi1 (ev_bind h2 (ev_if_pos rfl (ev_if_neg c1 (ev_if_pos c2 (ev_if_pos (by omega) (ev_if_pos (by omega) (ev_if_neg c3 hm)))))))))
        · refine ⟨b, ev_succ ?_, ev_succ ?_⟩
          · simp only [spec_StateOK.l0, hx, hw]
            exact ev_if_pos hi1 (ev_if_pos hi0 (ev_bind h1 (ev_if_pos rfl (ev_if_neg c1 (ev_if_neg c2 hs)))))
          · simp only [impl_logOK.l0, hx, hw]
            exact ev_if_pos hi1 (ev_if_pos hi0 (ev_if_pos hi1 (ev_bind h2 (ev_if_pos rfl (ev_if_neg c1 (ev_if_neg c2 hm))))))
theorem state_same (t v : Int) (l : List S49) (hl : l.length ≤ 1048576) (hB : ∀ x ∈ l, x.f2.size ≤ 1048576) : ∃ b, Ev (fun k => spec_StateOK.f k t v l) b ∧ Ev (fun k => impl_StateOK.f k t v l) b := by
  obtain ⟨b, hs, hm⟩ := log_both l hl hB t v l.length 0 (by omega)
  unfold spec_StateOK.f impl_StateOK.f
  have e1 : spec_l01In.f t 0 1000000 = impl_within.f t 0 1000000 := rfl
  have e2 : spec_l01In.f v (-1) 6 = impl_within.f v (-1) 6 := rfl
  rw [e1, e2]
  obtain ⟨q1, hq1⟩ : ∃ q, impl_within.f t 0 1000000 = some q := by unfold impl_within.f; split <;> exact ⟨_, rfl⟩
  obtain ⟨q2, hq2⟩ : ∃ q, impl_within.f v (-1) 6 = some q := by unfold impl_within.f; split <;> exact ⟨_, rfl⟩
  rw [hq1, hq2]
  simp only [Option.bind_some]
  have hbad : Ev (fun k => spec_StateOK.j0 k true t v l) false := by
    refine ev_succ ?_
    simp only [spec_StateOK.j0]
    exact ev_if_pos trivial (ev_some _)
  cases q1 with
  | false => exact ⟨false, ev_if_neg (by simp) hbad, ev_if_neg (by simp) (ev_some _)⟩
  | true =>
    cases q2 with
    | false => exact ⟨false, ev_if_pos rfl (ev_if_neg (by simp) hbad), ev_if_pos rfl (ev_if_neg (by simp) (ev_some _))⟩
    | true =>
      have hm2 : Ev (fun k => impl_logOK.f k l t) (b && decide ((l.length : Int) ≤ 60)) := hm
      by_cases h60 : (l.length : Int) > 60
      · rw [decide_eq_false (by omega), Bool.and_false] at hm2
        rw [decide_eq_true h60]
        exact ⟨false, ev_if_pos rfl (ev_if_pos rfl hbad), ev_if_pos rfl (ev_if_pos rfl (ev_bind hm2 (ev_some _)))⟩
      · rw [decide_eq_true (by omega), Bool.and_true] at hm2
        rw [decide_eq_false h60]
        refine ⟨b, ev_if_pos rfl (ev_if_pos rfl (ev_succ ?_)), ev_if_pos rfl (ev_if_pos rfl (ev_bind hm2 (ev_some _)))⟩
        simp only [spec_StateOK.j0]
        exact ev_if_neg (by simp) hs
def convEntry (x : S46) : S49 := ⟨x.f0, x.f1, x.f2⟩
theorem toEntryS_ev (l : List S46) (hl : l.length ≤ 1048576) : Ev (fun k => laws_toEntryS.f k l) (l.map convEntry) := by
  have hml : (l.map convEntry).length = l.length := List.length_map _
  have key := ev_loop (fun k (s : List S49 × Int) => laws_toEntryS.l0 k l s.1 s.2) (fun s => 0 ≤ s.2 ∧ s.2 ≤ l.length ∧ s.1.length = l.length ∧ ∀ j : Nat, j < s.2.toNat → s.1[j]? = (l.map convEntry)[j]?) (fun s => l.length - s.2.toNat) (fun _ => l.map convEntry) (by
    rintro ⟨x, i⟩ ⟨h0, h1, h2, h3⟩
    simp only at h0 h1 h2 h3
    by_cases hi : i < (l.length : Int)
    · right
      obtain ⟨hs1, hs2⟩ := copy_step (l.map convEntry) x i.toNat (convEntry z46) (by rw [hml]; exact h2) (by rw [hml]; omega) h3
      have hg : (l.map convEntry).getD i.toNat (convEntry z46) = convEntry (rd_T46 l i) := by
        unfold rd_T46
        rw [List.getD_eq_getElem?_getD, List.getD_eq_getElem?_getD, List.getElem?_map]
        cases l[i.toNat]? <;> rfl
      rw [hg] at hs1 hs2
      rw [hml] at hs1
      refine ⟨(x.set i.toNat (convEntry (rd_T46 l i)), i + 1), ⟨by simp only; omega, by simp only; omega, hs1, fun j hj => hs2 j (by simp only at hj; omega)⟩, by simp only; omega, rfl, 0, fun j _ => ?_⟩
      show laws_toEntryS.l0 (j + 1) l x i = _
      simp only [laws_toEntryS.l0, laws_toEntry.f, Option.bind_some]
      rw [if_pos (by omega), if_pos h0, if_pos (by omega), wrap_in (x := i + 1) (by omega) (by omega)]
      rfl
    · left
      refine ⟨0, fun j _ => ?_⟩
      show laws_toEntryS.l0 (j + 1) l x i = _
      simp only [laws_toEntryS.l0]
      rw [if_neg (by omega), copy_end (l.map convEntry) x (by rw [hml]; exact h2) (fun j hj => h3 j (by rw [hml] at hj; omega))])
  have := key (List.replicate l.length z49, 0) ⟨by simp, by simp, by simp, fun j hj => absurd hj (by simp)⟩
  refine ev_congr (fun k => ?_) this
  unfold laws_toEntryS.f
  rw [if_pos (by omega), if_pos (by omega), Int.toNat_natCast]

theorem eqEntry_same (a0) (a1) (a2) : laws_eqEntry.f a0 a1 a2 a0 a1 a2 = some true := by
  unfold laws_eqEntry.f
  repeat' split
  all_goals first | rfl | (exfalso; simp_all)
theorem eqEntryS_ev (l : List S49) (hl : l.length ≤ 1048576) : Ev (fun k => laws_eqEntryS.f k l l) true := by
  have key := ev_loop (fun k (i : Int) => laws_eqEntryS.l0 k l l i) (fun i => 0 ≤ i ∧ i ≤ l.length) (fun i => l.length - i.toNat) (fun _ => true) (by
    rintro i ⟨h0, h1⟩
    by_cases hi : i < (l.length : Int)
    · right
      refine ⟨i + 1, ⟨by omega, by omega⟩, by omega, rfl, 0, fun j _ => ?_⟩
      simp only [laws_eqEntryS.l0, eqEntry_same, Option.bind_some]
      rw [if_pos hi, if_pos h0, if_pos hi, if_pos trivial, wrap_in (by omega) (by omega)]
    · left
      refine ⟨0, fun j _ => ?_⟩
      simp only [laws_eqEntryS.l0]
      rw [if_neg hi])
  refine ev_congr (fun k => ?_) (key 0 ⟨by omega, by omega⟩)
  unfold laws_eqEntryS.f
  rw [if_pos rfl]

/-- The texts of one are no longer than what is left. -/
def BEntry (x : S46) (n : Int) : Prop := (x.f2.size : Int) ≤ n
theorem szEntry_some (x : S46) (hg : g46 x) (n : Int) (h0 : 0 ≤ n) (h1 : n ≤ 1048576) : ∃ s, laws_szEntry.f x.f0 x.f1 x.f2 n = some s ∧ s ≤ n ∧ (0 ≤ s ∨ s = -1) ∧ (0 ≤ s → BEntry x n) := by
  unfold laws_szEntry.f BEntry
  have hb2 : x.f2.size ≤ maxLen := hg.2.2
  unfold maxLen at *
  have hw0 : wrap64 (n - (x.f2.size : Int)) = n - (x.f2.size : Int) := wrap_in (by omega) (by omega)
  by_cases c0 : n - (x.f2.size : Int) < 0
  · refine ⟨-1, ?_, by omega, .inr rfl, fun h => absurd h (by omega)⟩
    simp only [hw0]
    rw [if_pos c0]
  · skip
    refine ⟨n - (x.f2.size : Int), ?_, by omega, .inl (by omega), fun _ => by omega⟩
    simp only [hw0]
    rw [if_neg c0]

theorem szEntryS_ev (l : List S46) (hg : Open.GL g46 l) (n : Int) (h0 : 0 ≤ n) (h1 : n ≤ 1048576) : ∃ s, Ev (fun k => laws_szEntryS.f k l n) s ∧ (s = -1 ∨ 0 ≤ s ∧ (l.length : Int) ≤ n ∧ s ≤ n ∧ ∀ x ∈ l, BEntry x n) := by
  have hm := hg.1
  unfold maxLen at hm
  have hw : wrap64 (n - (l.length : Int)) = n - (l.length : Int) := wrap_in (by omega) (by omega)
  by_cases hneg : n - (l.length : Int) < 0
  · exact ⟨-1, ev_of_eq fun k => by unfold laws_szEntryS.f; rw [hw, if_pos hneg], .inl rfl⟩
  · have key : ∀ (d i : Nat) (v : Int), i + d = l.length → 0 ≤ v → v ≤ n → ∃ s, Ev (fun k => laws_szEntryS.l0 k l v (i : Int)) s ∧ (s = -1 ∨ 0 ≤ s ∧ s ≤ n ∧ ∀ x ∈ l.drop i, BEntry x n) := by
      intro d
      induction d with
      | zero =>
        intro i v hi hv0 hv1
        exact ⟨v, ev_succ (ev_of_eq fun k => by simp only [laws_szEntryS.l0]; rw [if_neg (by omega)]), .inr ⟨hv0, hv1, fun x hx => by rw [List.drop_eq_nil_of_le (by omega)] at hx; simp at hx⟩⟩
      | succ d ih =>
        intro i v hi hv0 hv1
        have hmem : rd_T46 l (i : Int) ∈ l := by
          unfold rd_T46
          rw [Int.toNat_natCast, List.getD_eq_getElem?_getD, List.getElem?_eq_getElem (by omega), Option.getD_some]
          exact List.getElem_mem _
        obtain ⟨s, hs, hle, hor, hB⟩ := szEntry_some (rd_T46 l (i : Int)) (hg.2 _ hmem) v hv0 (by omega)
        by_cases hs0 : s < 0
        · refine ⟨-1, ev_succ (ev_of_eq fun k => ?_), .inl rfl⟩
          simp only [laws_szEntryS.l0, hs, Option.bind_some]
          rw [if_pos (by omega), if_pos (by omega), if_pos hs0]
        · obtain ⟨r, hr, hrn⟩ := ih (i + 1) s (by omega) (by omega) (by omega)
          refine ⟨r, ev_succ (ev_congr (fun k => ?_) hr), ?_⟩
          · simp only [laws_szEntryS.l0, hs, Option.bind_some]
            rw [if_pos (by omega), if_pos (by omega), if_neg hs0, wrap_in (x := (i : Int) + 1) (by omega) (by omega)]
            rfl
          · rcases hrn with h | ⟨ha, hb, hall⟩
            · exact .inl h
            · refine .inr ⟨ha, hb, fun x hx => ?_⟩
              rw [List.drop_eq_getElem_cons (by omega)] at hx
              rcases List.mem_cons.1 hx with rfl | hx
              · have hq := hB (by omega)
                unfold rd_T46 at hq
                rw [Int.toNat_natCast, List.getD_eq_getElem?_getD, List.getElem?_eq_getElem (by omega), Option.getD_some] at hq
                unfold BEntry at hq ⊢
                omega
              · exact hall x hx
    obtain ⟨s, hs, hsn⟩ := key l.length 0 (n - (l.length : Int)) (by omega) (by omega) (by omega)
    refine ⟨s, ev_congr (fun k => ?_) hs, ?_⟩
    · unfold laws_szEntryS.f
      rw [hw, if_neg hneg]
      rfl
    · rcases hsn with h | ⟨ha, hb, hall⟩
      · exact .inl h
      · exact .inr ⟨ha, by omega, hb, fun x hx => hall x (by simpa using hx)⟩

theorem szState_ev (a b : Int) (l : List S46) (hg : Open.GL g46 l) (n : Int) (h0 : 0 ≤ n) (h1 : n ≤ 1048576) : ∃ s, Ev (fun k => laws_szState.f k a b l n) s ∧ (s = -1 ∨ 0 ≤ s ∧ (l.length : Int) ≤ n ∧ s ≤ n ∧ ∀ x ∈ l, BEntry x n) := by
  obtain ⟨s, hs, hh⟩ := szEntryS_ev l hg n h0 h1
  unfold laws_szState.f
  by_cases hneg : s < 0
  · exact ⟨-1, ev_bind hs (ev_if_pos hneg (ev_some _)), .inl rfl⟩
  · exact ⟨s, ev_bind hs (ev_if_neg hneg (ev_some _)), hh⟩
theorem toState_ev (a b : Int) (l : List S46) (hl : l.length ≤ 1048576) : Ev (fun k => laws_toState.f k a b l) (a, b, l.map convEntry) := by
  unfold laws_toState.f
  exact ev_bind (toEntryS_ev l hl) (ev_some _)
theorem conv_bound (l : List S46) (n : Int) (h1 : n ≤ 1048576) (h : ∀ x ∈ l, BEntry x n) : ∀ y ∈ l.map convEntry, y.f2.size ≤ 1048576 := by
  intro y hy
  obtain ⟨x, hx, rfl⟩ := List.mem_map.1 hy
  have := h x hx
  unfold BEntry at this
  show x.f2.size ≤ 1048576
  omega

theorem eqState_ev (a b : Int) (l : List S49) (hl : l.length ≤ 1048576) : Ev (fun k => laws_eqState.f k a b l a b l) true := by
  unfold laws_eqState.f
  exact ev_if_pos rfl (ev_if_pos rfl (ev_bind (eqEntryS_ev l hl) (ev_if_pos rfl (ev_some _))))

theorem FnExactStateOK : laws_FnExactStateOK.Pure := by
  intro a b l _ _ hg
  refine Ev.rounds (r := true) ?_
  unfold laws_FnExactStateOK.f
  obtain ⟨s, hs, hh⟩ := szState_ev a b l hg 1048576 (by omega) (by omega)
  refine ev_bind hs ?_
  by_cases hneg : s < 0
  · exact ev_if_pos hneg (ev_some _)
  · obtain ⟨_, hl, _, hB⟩ := hh.resolve_left (by omega)
    have ht := toState_ev a b l (by omega)
    have hml : (l.map convEntry).length = l.length := List.length_map _
    obtain ⟨r, h1, h2⟩ := state_same a b (l.map convEntry) (by omega) (conv_bound l 1048576 (by omega) hB)
    have he := eqState_ev a b (l.map convEntry) (by omega)
    exact ev_if_neg hneg (ev_bind ht (ev_bind h1 (ev_bind ht (ev_bind h2 (ev_if_neg (by simp) (ev_bind ht (ev_bind he (ev_if_pos rfl (ev_some _)))))))))
end Go.Proofs.Ytbkgjjiceldjeaa.Pure
