/- ReadMembers answers as the reference's at every text, and its answer is its own: the plain form. No conditions. -/
import Derived.Test.YtdanonhkkdijnaaPFnExactReadMembersx2
import Derived.Test.YtdanonhkkdijnaaU
namespace Go.Proofs.Ytdanonhkkdijnaa.Pure
open Go.RowKit Go.Proofs.Ytdanonhkkdijnaa.PFnExactReadMembers Go.Proofs.YtdanonhkkdijnaaW.PrintWords Go.Proofs.YtdanonhkkdijnaaW.PrintLast Go.Proofs.YtdanonhkkdijnaaW.PrintMore Go.Proofs.Ytdanonhkkdijnaa.U
theorem isText_one (h : ByteArray) : impl_isText.f [h] = some (decide ((h.size : Int) ≤ 65536)) := by
  unfold impl_isText.f impl_isText.p
  simp only [List.any_cons, List.any_nil, Bool.or_false, Option.some.injEq]
  rw [Bool.eq_iff_iff]
  simp

/-- What members' data must be, up to place n. -/
def okTo (s : ByteArray) : Nat → Bool
  | 0 => true
  | n + 1 => okTo s n && decide (bt s (n : Int) ≤ 6) && (decide (n = 0) || decide (bt s ((n : Int) - 1) < bt s (n : Int)))
def mOK (s : ByteArray) : Bool := decide (0 < s.size) && okTo s s.size
theorem okTo_mono (s : ByteArray) (a b : Nat) (h : a ≤ b) (hb : okTo s b = true) : okTo s a = true := by
  induction b with
  | zero => obtain rfl : a = 0 := by omega
            exact hb
  | succ b ih =>
    rcases Nat.lt_or_ge b a with hlt | hge
    · obtain rfl : a = b + 1 := by omega
      exact hb
    · simp only [okTo, Bool.and_eq_true] at hb
      exact ih hge hb.1.1
theorem byte_wrap (s : ByteArray) (i : Int) : wrap64 (bt s i) = bt s i := by
  have := bt_range s i
  exact wrap_in (by omega) (by omega)
theorem snoc_bytes (s : ByteArray) (n : Nat) (h : n < s.size) : (bytesOf s).take n ++ [bt s (n : Int)] = (bytesOf s).take (n + 1) := by
  have hl := bytesOf_length s
  rw [List.take_succ_eq_append_getElem (by omega), ← rd_bytesOf]
  unfold rd
  rw [Int.toNat_natCast, List.getD_eq_getElem?_getD, List.getElem?_eq_getElem (by omega), Option.getD_some]
theorem spec_members (s : ByteArray) (hs : s.size ≤ 1048576) (d : Nat) : ∀ n : Nat, n + d = s.size → okTo s n = true →
    Ev (fun k => spec_l02Members.l0 k s ((bytesOf s).take n) (n : Int)) (if mOK s then bytesOf s else (if okTo s s.size then bytesOf s else []), mOK s) := by
  have hl := bytesOf_length s
  induction d with
  | zero =>
    intro n hn ho
    obtain rfl : n = s.size := by omega
    refine ev_succ (ev_of_eq fun k => ?_)
    simp only [spec_l02Members.l0]
    rw [if_neg (by omega), List.take_of_length_le (by omega), ho]
    have e : mOK s = decide (((bytesOf s).length : Int) > 0) := by
      unfold mOK
      rw [ho, Bool.and_true, hl]
      rw [Bool.eq_iff_iff]; simp
    rw [e]
    split <;> rfl
  | succ d ih =>
    intro n hn ho
    have hb := bt_range s (n : Int)
    have hlt : ((bytesOf s).take n).length < 17592186044416 := by rw [List.length_take]; omega
    have hin : spec_l01In.f (bt s (n : Int)) 0 6 = some (decide (bt s (n : Int) ≤ 6)) := by unfold spec_l01In.f; rw [if_pos hb.1]
    have hbad : okTo s (n + 1) = false → mOK s = false ∧ okTo s s.size = false := by
      intro h
      have : okTo s s.size = false := by
        rw [Bool.eq_false_iff]
        intro ht
        rw [okTo_mono s (n + 1) s.size (by omega) ht] at h
        exact Bool.noConfusion h
      exact ⟨by unfold mOK; rw [this, Bool.and_false], this⟩
    by_cases h6 : bt s (n : Int) ≤ 6
    · by_cases hn0 : n = 0
      · subst hn0
        have hok : okTo s (0 + 1) = true := by simp [okTo]; exact h6
        refine ev_succ (ev_congr (fun k => ?_) (ih (0 + 1) (by omega) hok))
        simp only [spec_l02Members.l0, byte_wrap, hin, Option.bind_some]
        rw [if_pos (by omega), if_pos (by omega), if_pos (by simpa using h6), if_neg (by omega), if_pos hlt, snoc_bytes s 0 (by omega), wrap_in (by omega) (by omega)]
        rfl
      · have hp : wrap64 ((n : Int) - 1) = (n : Int) - 1 := wrap_in (by omega) (by omega)
        by_cases hr : bt s ((n : Int) - 1) < bt s (n : Int)
        · have hok : okTo s (n + 1) = true := by simp [okTo, ho, h6, hr]
          refine ev_succ (ev_congr (fun k => ?_) (ih (n + 1) (by omega) hok))
          simp only [spec_l02Members.l0, byte_wrap, hin, Option.bind_some, hp]
          rw [if_pos (by omega), if_pos (by omega), if_pos (by simpa using h6), if_pos (by omega), if_pos (by omega), if_pos (by omega), if_neg (by omega), if_pos hlt, snoc_bytes s n (by omega), wrap_in (by omega) (by omega)]
          rfl
        · have hok : okTo s (n + 1) = false := by simp [okTo, ho, h6, hr, hn0]
          obtain ⟨h1, h2⟩ := hbad hok
          refine ev_succ (ev_of_eq fun k => ?_)
          simp only [spec_l02Members.l0, byte_wrap, hin, Option.bind_some, hp]
          rw [if_pos (by omega), if_pos (by omega), if_pos (by simpa using h6), if_pos (by omega), if_pos (by omega), if_pos (by omega), if_pos (by omega), h1, h2]
          rfl
    · have hok : okTo s (n + 1) = false := by simp [okTo, h6]
      obtain ⟨h1, h2⟩ := hbad hok
      refine ev_succ (ev_of_eq fun k => ?_)
      simp only [spec_l02Members.l0, byte_wrap, hin, Option.bind_some]
      rw [if_pos (by omega), if_pos (by omega), if_neg (by simpa using h6), h1, h2]
      rfl
/-- The numbers rise, up to place n. -/
def riseTo (s : ByteArray) : Nat → Bool
  | 0 => true
  | n + 1 => riseTo s n && (decide (n = 0) || decide (bt s ((n : Int) - 1) < bt s (n : Int)))
def smallTo (s : ByteArray) : Nat → Bool
  | 0 => true
  | n + 1 => smallTo s n && decide (bt s (n : Int) ≤ 6)
theorem okTo_eq (s : ByteArray) (n : Nat) : okTo s n = (smallTo s n && riseTo s n) := by
  induction n with
  | zero => rfl
  | succ n ih =>
    simp only [okTo, smallTo, riseTo, ih]
    cases smallTo s n <;> cases riseTo s n <;> cases decide (bt s (n : Int) ≤ 6) <;> simp
theorem riseTo_mono (s : ByteArray) (a b : Nat) (h : a ≤ b) (hb : riseTo s b = true) : riseTo s a = true := by
  induction b with
  | zero => obtain rfl : a = 0 := by omega
            exact hb
  | succ b ih =>
    rcases Nat.lt_or_ge b a with hlt | hge
    · obtain rfl : a = b + 1 := by omega
      exact hb
    · simp only [riseTo, Bool.and_eq_true] at hb
      exact ih hge hb.1
theorem numbers_eq (s : ByteArray) : impl_areNumbers.f (bytesOf s) = some (smallTo s s.size) := by
  have hl := bytesOf_length s
  have key : ∀ n : Nat, n ≤ s.size → (!(((bytesOf s).take n).any impl_areNumbers.p)) = smallTo s n := by
    intro n
    induction n with
    | zero => intro _; rfl
    | succ n ih =>
      intro hn
      rw [← snoc_bytes s n (by omega), List.any_append, Bool.not_or, ih (by omega)]
      have hb := bt_range s (n : Int)
      simp only [smallTo, List.any_cons, List.any_nil, Bool.or_false, impl_areNumbers.p, Bool.not_not]
      rw [if_pos hb.1]
  unfold impl_areNumbers.f
  rw [← key s.size (Nat.le_refl _), List.take_of_length_le (by omega)]
theorem rising_ev (s : ByteArray) (hs : s.size ≤ 1048576) (d : Nat) : ∀ n : Nat, 1 ≤ n → n + d = s.size → riseTo s n = true → Ev (fun k => impl_areRising.l0 k (bytesOf s) (n : Int)) (riseTo s s.size) := by
  have hl := bytesOf_length s
  induction d with
  | zero =>
    intro n h1 hn hr
    obtain rfl : n = s.size := by omega
    refine ev_succ (ev_of_eq fun k => ?_)
    simp only [impl_areRising.l0]
    rw [if_neg (by omega), hr]
  | succ d ih =>
    intro n h1 hn hr
    have hp : wrap64 ((n : Int) - 1) = (n : Int) - 1 := wrap_in (by omega) (by omega)
    by_cases hlt : bt s ((n : Int) - 1) < bt s (n : Int)
    · refine ev_succ (ev_congr (fun k => ?_) (ih (n + 1) (by omega) (by omega) (by simp [riseTo, hr, hlt])))
      simp only [impl_areRising.l0, hp, rd_bytesOf]
      rw [if_pos (by omega), if_pos (by omega), if_pos (by omega), if_pos (by omega), if_neg (by omega), wrap_in (by omega) (by omega)]
      rfl
    · have hf : riseTo s s.size = false := by
        rw [Bool.eq_false_iff]
        intro ht
        have := riseTo_mono s (n + 1) s.size (by omega) ht
        simp only [riseTo, Bool.and_eq_true, Bool.or_eq_true, decide_eq_true_eq] at this
        omega
      refine ev_succ (ev_of_eq fun k => ?_)
      simp only [impl_areRising.l0, hp, rd_bytesOf]
      rw [if_pos (by omega), if_pos (by omega), if_pos (by omega), if_pos (by omega), if_pos (by omega), hf]
theorem membersOK_ev (s : ByteArray) (hs : s.size ≤ 1048576) : Ev (fun k => impl_membersOK.f k (bytesOf s)) (mOK s) := by
  have hl := bytesOf_length s
  unfold impl_membersOK.f mOK
  rw [numbers_eq]
  simp only [Option.bind_some]
  by_cases h0 : 0 < s.size
  · refine ev_if_pos (by omega) ?_
    rw [okTo_eq]
    cases hm : smallTo s s.size with
    | false => simp only [Bool.false_and, Bool.and_false]; exact ev_if_neg (by simp) (ev_some _)
    | true =>
      simp only [Bool.true_and]
      rw [decide_eq_true h0, Bool.true_and]
      refine ev_if_pos trivial ?_
      have hr1 : riseTo s 1 = true := by simp [riseTo]
      have := rising_ev s hs (s.size - 1) 1 (Nat.le_refl _) (by omega) hr1
      exact ev_bind (g := fun k => impl_areRising.f k (bytesOf s)) this (ev_some _)
  · rw [decide_eq_false h0, Bool.false_and]
    exact ev_if_neg (by omega) (ev_some _)
theorem impl_members (s : ByteArray) (hs : s.size ≤ 1048576) (d : Nat) : ∀ n : Nat, n + d = s.size → Ev (fun k => impl_readMembers.l0 k s ((bytesOf s).take n) (s.size : Int) (n : Int)) (bytesOf s, mOK s) := by
  have hl := bytesOf_length s
  induction d with
  | zero =>
    intro n hn
    obtain rfl : n = s.size := by omega
    refine ev_succ (ev_congr (fun k => ?_) (ev_bind (f := fun _ t => some (bytesOf s, t)) (membersOK_ev s hs) (ev_some _)))
    simp only [impl_readMembers.l0]
    rw [if_neg (by omega), List.take_of_length_le (by omega)]
  | succ d ih =>
    intro n hn
    refine ev_succ (ev_congr (fun k => ?_) (ih (n + 1) (by omega)))
    simp only [impl_readMembers.l0, byte_wrap]
    rw [if_pos (by omega), if_pos (by omega), if_pos (by omega), if_pos (by rw [List.length_take]; omega), snoc_bytes s n (by omega), wrap_in (by omega) (by omega)]
    rfl
theorem impl_readMembers_ev (s : ByteArray) (hs : s.size ≤ 1048576) : Ev (fun k => impl_readMembers.f k s) (bytesOf s, mOK s) := by
  have := impl_members s hs s.size 0 (by omega)
  exact this
theorem spec_l02Members_ev (s : ByteArray) (hs : s.size ≤ 1048576) : ∃ l, Ev (fun k => spec_l02Members.f k s) (l, mOK s) ∧ (mOK s = true → l = bytesOf s) := by
  have := spec_members s hs s.size 0 (by omega) rfl
  exact ⟨_, this, fun h => by rw [if_pos h]⟩

theorem eqIntS_ev (l : List Int) (hl : l.length ≤ 1048576) : Ev (fun k => laws_eqIntS.f k l l) true := by
  have key := ev_loop (fun k (i : Int) => laws_eqIntS.l0 k l l i) (fun i => 0 ≤ i ∧ i ≤ l.length) (fun i => l.length - i.toNat) (fun _ => true) (by
    rintro i ⟨h0, h1⟩
    by_cases hi : i < (l.length : Int)
    · right
      refine ⟨i + 1, ⟨by omega, by omega⟩, by omega, rfl, 0, fun j _ => ?_⟩
      simp only [laws_eqIntS.l0]
      rw [if_pos hi, if_pos h0, if_pos hi, if_pos trivial, wrap_in (by omega) (by omega)]
    · left
      refine ⟨0, fun j _ => ?_⟩
      simp only [laws_eqIntS.l0]
      rw [if_neg hi])
  refine ev_congr (fun k => ?_) (key 0 ⟨by omega, by omega⟩)
  unfold laws_eqIntS.f
  rw [if_pos rfl]

/-- What the marks are: 1, 2, 3, .. -/
def marksI (n : Nat) : List Int := (List.range n).map fun i => ((i : Nat) : Int) + 1
theorem marksI_length (n : Nat) : (marksI n).length = n := by simp [marksI]
theorem marksI_get (n i : Nat) (h : i < n) : (marksI n).getD i 0 = (i : Int) + 1 := by
  unfold marksI
  rw [List.getD_eq_getElem?_getD, List.getElem?_map, List.getElem?_range h]
  rfl
theorem markIntS_ev (l : List Int) (hl : l.length ≤ 1048576) : Ev (fun k => laws_markIntS.f k l 1) ((l.length : Int) + 1, marksI l.length) := by
  have key := ev_loop (fun k (s : List Int × Int) => laws_markIntS.l0 k s.1 (s.2 + 1) s.2) (fun s => 0 ≤ s.2 ∧ s.2 ≤ l.length ∧ s.1.length = l.length ∧ ∀ j : Nat, j < s.2.toNat → s.1[j]? = (marksI l.length)[j]?) (fun s => l.length - s.2.toNat) (fun _ => ((l.length : Int) + 1, marksI l.length)) (by
    rintro ⟨x, i⟩ ⟨h0, h1, h2, h3⟩
    simp only at h0 h1 h2 h3
    have hml := marksI_length l.length
    by_cases hi : i < (l.length : Int)
    · right
      obtain ⟨hs1, hs2⟩ := copy_step (marksI l.length) x i.toNat 0 (by rw [hml]; exact h2) (by rw [hml]; omega) h3
      have hg := marksI_get l.length i.toNat (by omega)
      rw [hg] at hs1 hs2
      rw [hml] at hs1
      have hc : ((i.toNat : Nat) : Int) + 1 = i + 1 := by omega
      rw [hc] at hs1 hs2
      refine ⟨(x.set i.toNat (i + 1), i + 1), ⟨by simp only; omega, by simp only; omega, hs1, fun j hj => hs2 j (by simp only at hj; omega)⟩, by simp only; omega, rfl, 0, fun j _ => ?_⟩
      show laws_markIntS.l0 (j + 1) x (i + 1) i = laws_markIntS.l0 j (x.set i.toNat (i + 1)) (i + 1 + 1) (i + 1)
      simp only [laws_markIntS.l0]
      rw [if_pos (by omega), if_pos h0, wrap_in (x := i + 1 + 1) (by omega) (by omega), wrap_in (x := i + 1) (by omega) (by omega)]
    · left
      refine ⟨0, fun j _ => ?_⟩
      show laws_markIntS.l0 (j + 1) x (i + 1) i = _
      simp only [laws_markIntS.l0]
      rw [if_neg (by omega), copy_end (marksI l.length) x (by rw [hml]; exact h2) (fun j hj => h3 j (by rw [hml] at hj; omega)), show i + 1 = (l.length : Int) + 1 from by omega])
  have := key (l, 0) ⟨by simp, by simp, rfl, fun j hj => absurd hj (by simp)⟩
  exact this
theorem heldIntS_ev (n : Nat) (hl : n ≤ 1048576) : Ev (fun k => laws_heldIntS.f k (marksI n) 1) ((n : Int) + 1) := by
  have hml := marksI_length n
  have key := ev_loop (fun k (i : Int) => laws_heldIntS.l0 k (marksI n) (i + 1) i) (fun i => 0 ≤ i ∧ i ≤ n) (fun i => n - i.toNat) (fun _ => (n : Int) + 1) (by
    rintro i ⟨h0, h1⟩
    by_cases hi : i < (n : Int)
    · right
      have hg := marksI_get n i.toNat (by omega)
      have hr : rd (marksI n) i = i + 1 := by unfold rd; rw [hg]; omega
      refine ⟨i + 1, ⟨by omega, by omega⟩, by omega, rfl, 0, fun j _ => ?_⟩
      simp only [laws_heldIntS.l0]
      rw [if_pos (by rw [hml]; omega), if_pos h0, if_pos hr, wrap_in (x := i + 1 + 1) (by omega) (by omega), wrap_in (x := i + 1) (by omega) (by omega)]
    · left
      refine ⟨0, fun j _ => ?_⟩
      simp only [laws_heldIntS.l0]
      rw [if_neg (by rw [hml]; omega), show i + 1 = (n : Int) + 1 from by omega])
  exact key 0 ⟨by omega, by omega⟩

theorem both (s : ByteArray) : ∃ (l : List Int) (c : Int), l.length ≤ 1048576 ∧ Ev (fun k => spec_ReadMembers.f k s) (l, c) ∧ Ev (fun k => impl_ReadMembers.f k s) (l, c) := by
  unfold spec_ReadMembers.f impl_ReadMembers.f
  rw [isText_one]
  simp only [Option.bind_some]
  by_cases h1 : (s.size : Int) > 65536
  · exact ⟨[], 2, by simp, ev_if_pos h1 (ev_some _), ev_if_neg (by simp; omega) (ev_some _)⟩
  · have hl := bytesOf_length s
    obtain ⟨l, hs, he⟩ := spec_l02Members_ev s (by omega)
    have hm := impl_readMembers_ev s (by omega)
    cases hok : mOK s with
    | true =>
      have := he hok
      subst this
      rw [hok] at hs hm
      exact ⟨bytesOf s, 0, by omega, ev_if_neg h1 (ev_bind hs (ev_if_pos rfl (ev_some _))), ev_if_pos (by simp; omega) (ev_bind hm (ev_if_pos rfl (ev_some _)))⟩
    | false =>
      rw [hok] at hs hm
      exact ⟨[], 3, by simp, ev_if_neg h1 (ev_bind hs (ev_if_neg (by simp) (ev_some _))), ev_if_pos (by simp; omega) (ev_bind hm (ev_if_neg (by simp) (ev_some _)))⟩
theorem FnExactReadMembers : laws_FnExactReadMembers.Pure := by
  intro s _
  by_cases hb : (s.size : Int) > 1048576
  · exact ⟨0, by unfold laws_FnExactReadMembers.f; rw [if_pos hb]⟩
  · refine Ev.rounds (r := true) ?_
    obtain ⟨l, c, hl, hs, hm⟩ := both s
    have he := eqIntS_ev l hl
    have hmk := markIntS_ev l hl
    have hh := heldIntS_ev l.length hl
    have hj1 : Ev (fun k => laws_FnExactReadMembers.j1 k (marksI l.length) ((l.length : Int) + 1) false) true := by
      refine ev_succ (ev_congr (fun k => ?_) (ev_bind hh (f := fun _ t => if t < 0 then some false else if t = (l.length : Int) + 1 then some true else some false) (ev_if_neg (by omega) (ev_if_pos rfl (ev_some _)))))
      simp only [laws_FnExactReadMembers.j1]
      rw [if_neg (by simp)]
    have hj0 : Ev (fun k => laws_FnExactReadMembers.j0 k s l c l false) true := by
      refine ev_succ ?_
      simp only [laws_FnExactReadMembers.j0]
      refine ev_if_neg (by simp) (ev_bind hmk (ev_bind hh (ev_if_neg (by omega) (ev_if_pos rfl (ev_bind hm (ev_bind he (ev_if_pos rfl ?_)))))))
      simpa using hj1
    unfold laws_FnExactReadMembers.f
    refine ev_if_neg hb (ev_bind hs (ev_bind hm (ev_bind he (ev_if_pos rfl ?_))))
    simpa using hj0
end Go.Proofs.Ytdanonhkkdijnaa.Pure
