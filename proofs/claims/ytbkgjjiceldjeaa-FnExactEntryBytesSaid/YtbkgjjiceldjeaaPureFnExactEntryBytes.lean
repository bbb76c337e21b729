/- The program's EntryBytes answers as the reference's at all entries: the plain form. No conditions. -/
import Derived.Test.YtbkgjjiceldjeaaQFnExactEntryBytes
import Derived.Test.YtbkgjjiceldjeaaU
namespace Go.Proofs.Ytbkgjjiceldjeaa.Pure
open Go.RowKit Go.Proofs.Ytbkgjjiceldjeaa.PFnExactEntryBytes Go.Proofs.YtbkgjjiceldjeaaW.PrintWords Go.Proofs.YtbkgjjiceldjeaaW.PrintLast Go.Proofs.YtbkgjjiceldjeaaW.PrintMore Go.Proofs.Ytbkgjjiceldjeaa.U
set_option linter.unusedVariables false
set_option linter.unusedSimpArgs false
/-- What members' data must be, up to place n. -/
def okTo (s : ByteArray) : Nat → Bool
  | 0 => true
  | n + 1 => okTo s n && decide (bt s (n : Int) ≤ 6) && (decide (n = 0) || decide (bt s ((n : Int) - 1) < bt s (n : Int)))
def mOK (s : ByteArray) : Bool := decide (0 < s.size) && okTo s s.size
theorem okTo_mono (s : ByteArray) (a b : Nat) (h : a ≤ b) (hb : okTo s b = true) : okTo s a = true := by
  induction b with
  | zero => obtain rfl : a = 0 := by omega
            exact hb
  | succ b ih =>
    rcases Nat.lt_or_ge b a with hlt | hge
    · obtain rfl : a = b + 1 := by omega
      exact hb
    · simp only [okTo, Bool.and_eq_true] at hb
      exact ih hge hb.1.1
theorem byte_wrap (s : ByteArray) (i : Int) : wrap64 (bt s i) = bt s i := by
  have := bt_range s i
  exact wrap_in (by omega) (by omega)
theorem snoc_bytes (s : ByteArray) (n : Nat) (h : n < s.size) : (bytesOf s).take n ++ [bt s (n : Int)] = (bytesOf s).take (n + 1) := by
  have hl := bytesOf_length s
  rw [List.take_succ_eq_append_getElem (by omega), ← rd_bytesOf]
  unfold rd
  rw [Int.toNat_natCast, List.getD_eq_getElem?_getD, List.getElem?_eq_getElem (by omega), Option.getD_some]
theorem spec_members (s : ByteArray) (hs : s.size ≤ 1048576) (d : Nat) : ∀ n : Nat, n + d = s.size → okTo s n = true →
    Ev (fun k => spec_l02Members.l0 k s ((bytesOf s).take n) (n : Int)) (if mOK s then bytesOf s else (if okTo s s.size then bytesOf s else []), mOK s) := by
  have hl := bytesOf_length s
  induction d with
  | zero =>
    intro n hn ho
    obtain rfl : n = s.size := by omega
    refine ev_succ (ev_of_eq fun k => ?_)
    simp only [spec_l02Members.l0]
    rw [if_neg (by omega), List.take_of_length_le (by omega), ho]
    have e : mOK s = decide (((bytesOf s).length : Int) > 0) := by
      unfold mOK
      rw [ho, Bool.and_true, hl]
      rw [Bool.eq_iff_iff]; simp
    rw [e]
    split <;> rfl
  | succ d ih =>
    intro n hn ho
    have hb := bt_range s (n : Int)
    have hlt : ((bytesOf s).take n).length < 17592186044416 := by rw [List.length_take]; omega
    have hin : spec_l01In.f (bt s (n : Int)) 0 6 = some (decide (bt s (n : Int) ≤ 6)) := by unfold spec_l01In.f; rw [if_pos hb.1]
    have hbad : okTo s (n + 1) = false → mOK s = false ∧ okTo s s.size = false := by
      intro h
      have : okTo s s.size = false := by
        rw [Bool.eq_false_iff]
        intro ht
        rw [okTo_mono s (n + 1) s.size (by omega) ht] at h
        exact Bool.noConfusion h
      exact ⟨by unfold mOK; rw [this, Bool.and_false], this⟩
    by_cases h6 : bt s (n : Int) ≤ 6
    · by_cases hn0 : n = 0
      · subst hn0
        have hok : okTo s (0 + 1) = true := by simp [okTo]; exact h6
        refine ev_succ (ev_congr (fun k => ?_) (ih (0 + 1) (by omega) hok))
        simp only [spec_l02Members.l0, byte_wrap, hin, Option.bind_some]
        rw [if_pos (by omega), if_pos (by omega), if_pos (by simpa using h6), if_neg (by omega), if_pos hlt, snoc_bytes s 0 (by omega), wrap_in (by omega) (by omega)]
        rfl
      · have hp : wrap64 ((n : Int) - 1) = (n : Int) - 1 := wrap_in (by omega) (by omega)
        by_cases hr : bt s ((n : Int) - 1) < bt s (n : Int)
        · have hok : okTo s (n + 1) = true := by simp [okTo, ho, h6, hr]
          refine ev_succ (ev_congr (fun k => ?_) (ih (n + 1) (by omega) hok))
          simp only [spec_l02Members.l0, byte_wrap, hin, Option.bind_some, hp]
          rw [if_pos (by omega), if_pos (by omega), if_pos (by simpa using h6), if_pos (by omega), if_pos (by omega), if_pos (by omega), if_neg (by omega), if_pos hlt, snoc_bytes s n (by omega), wrap_in (by omega) (by omega)]
          rfl
        · have hok : okTo s (n + 1) = false := by simp [okTo, ho, h6, hr, hn0]
          obtain ⟨h1, h2⟩ := hbad hok
          refine ev_succ (ev_of_eq fun k => ?_)
          simp only [spec_l02Members.l0, byte_wrap, hin, Option.bind_some, hp]
          rw [if_pos (by omega), if_pos (by omega), if_pos (by simpa using h6), if_pos (by omega), if_pos (by omega), if_pos (by omega), if_pos (by omega), h1, h2]
          rfl
    · have hok : okTo s (n + 1) = false := by simp [okTo, h6]
      obtain ⟨h1, h2⟩ := hbad hok
      refine ev_succ (ev_of_eq fun k => ?_)
      simp only [spec_l02Members.l0, byte_wrap, hin, Option.bind_some]
      rw [if_pos (by omega), if_pos (by omega), if_neg (by simpa using h6), h1, h2]
      rfl
/-- The numbers rise, up to place n. -/
def riseTo (s : ByteArray) : Nat → Bool
  | 0 => true
  | n + 1 => riseTo s n && (decide (n = 0) || decide (bt s ((n : Int) - 1) < bt s (n : Int)))
def smallTo (s : ByteArray) : Nat → Bool
  | 0 => true
  | n + 1 => smallTo s n && decide (bt s (n : Int) ≤ 6)
theorem okTo_eq (s : ByteArray) (n : Nat) : okTo s n = (smallTo s n && riseTo s n) := by
  induction n with
  | zero => rfl
  | succ n ih =>
    simp only [okTo, smallTo, riseTo, ih]
    cases smallTo s n <;> cases riseTo s n <;> cases decide (bt s (n : Int) ≤ 6) <;> simp
theorem riseTo_mono (s : ByteArray) (a b : Nat) (h : a ≤ b) (hb : riseTo s b = true) : riseTo s a = true := by
  induction b with
  | zero => obtain rfl : a = 0 := by omega
            exact hb
  | succ b ih =>
    rcases Nat.lt_or_ge b a with hlt | hge
    · obtain rfl : a = b + 1 := by omega
      exact hb
    · simp only [riseTo, Bool.and_eq_true] at hb
      exact ih hge hb.1
theorem numbers_eq (s : ByteArray) : impl_areNumbers.f (bytesOf s) = some (smallTo s s.size) := by
  have hl := bytesOf_length s
  have key : ∀ n : Nat, n ≤ s.size → (!(((bytesOf s).take n).any impl_areNumbers.p)) = smallTo s n := by
    intro n
    induction n with
    | zero => intro _; rfl
    | succ n ih =>
      intro hn
      rw [← snoc_bytes s n (by omega), List.any_append, Bool.not_or, ih (by omega)]
      have hb := bt_range s (n : Int)
      simp only [smallTo, List.any_cons, List.any_nil, Bool.or_false, impl_areNumbers.p, Bool.not_not]
      rw [if_pos hb.1]
  unfold impl_areNumbers.f
  rw [← key s.size (Nat.le_refl _), List.take_of_length_le (by omega)]
theorem rising_ev (s : ByteArray) (hs : s.size ≤ 1048576) (d : Nat) : ∀ n : Nat, 1 ≤ n → n + d = s.size → riseTo s n = true → Ev (fun k => impl_areRising.l0 k (bytesOf s) (n : Int)) (riseTo s s.size) := by
  have hl := bytesOf_length s
  induction d with
  | zero =>
    intro n h1 hn hr
    obtain rfl : n = s.size := by omega
    refine ev_succ (ev_of_eq fun k => ?_)
    simp only [impl_areRising.l0]
    rw [if_neg (by omega), hr]
  | succ d ih =>
    intro n h1 hn hr
    have hp : wrap64 ((n : Int) - 1) = (n : Int) - 1 := wrap_in (by omega) (by omega)
    by_cases hlt : bt s ((n : Int) - 1) < bt s (n : Int)
    · refine ev_succ (ev_congr (fun k => ?_) (ih (n + 1) (by omega) (by omega) (by simp [riseTo, hr, hlt])))
      simp only [impl_areRising.l0, hp, rd_bytesOf]
      rw [if_pos (by omega), if_pos (by omega), if_pos (by omega), if_pos (by omega), if_neg (by omega), wrap_in (by omega) (by omega)]
      rfl
    · have hf : riseTo s s.size = false := by
        rw [Bool.eq_false_iff]
        intro ht
        have := riseTo_mono s (n + 1) s.size (by omega) ht
        simp only [riseTo, Bool.and_eq_true, Bool.or_eq_true, decide_eq_true_eq] at this
        omega
      refine ev_succ (ev_of_eq fun k => ?_)
      simp only [impl_areRising.l0, hp, rd_bytesOf]
      rw [if_pos (by omega), if_pos (by omega), if_pos (by omega), if_pos (by omega), if_pos (by omega), hf]
theorem membersOK_ev (s : ByteArray) (hs : s.size ≤ 1048576) : Ev (fun k => impl_membersOK.f k (bytesOf s)) (mOK s) := by
  have hl := bytesOf_length s
  unfold impl_membersOK.f mOK
  rw [numbers_eq]
  simp only [Option.bind_some]
  by_cases h0 : 0 < s.size
  · refine ev_if_pos (by omega) ?_
    rw [okTo_eq]
    cases hm : smallTo s s.size with
    | false => simp only [Bool.false_and, Bool.and_false]; exact ev_if_neg (by simp) (ev_some _)
    | true =>
      simp only [Bool.true_and]
      rw [decide_eq_true h0, Bool.true_and]
      refine ev_if_pos trivial ?_
      have hr1 : riseTo s 1 = true := by simp [riseTo]
      have := rising_ev s hs (s.size - 1) 1 (Nat.le_refl _) (by omega) hr1
      exact ev_bind (g := fun k => impl_areRising.f k (bytesOf s)) this (ev_some _)
  · rw [decide_eq_false h0, Bool.false_and]
    exact ev_if_neg (by omega) (ev_some _)
theorem spec_l02Members_ev (s : ByteArray) (hs : s.size ≤ 1048576) : ∃ l, Ev (fun k => spec_l02Members.f k s) (l, mOK s) ∧ (mOK s = true → l = bytesOf s) := by
  have := spec_members s hs s.size 0 (by omega) rfl
  exact ⟨_, this, fun h => by rw [if_pos h]⟩

theorem impl_members (s : ByteArray) (hs : s.size ≤ 1048576) (d : Nat) : ∀ n : Nat, n + d = s.size → Ev (fun k => impl_readMembers.l0 k s ((bytesOf s).take n) (s.size : Int) (n : Int)) (bytesOf s, mOK s) := by
  have hl := bytesOf_length s
  induction d with
  | zero =>
    intro n hn
    obtain rfl : n = s.size := by omega
    refine ev_succ (ev_congr (fun k => ?_) (ev_bind (f := fun _ t => some (bytesOf s, t)) (membersOK_ev s hs) (ev_some _)))
    simp only [impl_readMembers.l0]
    rw [if_neg (by omega), List.take_of_length_le (by omega)]
  | succ d ih =>
    intro n hn
    refine ev_succ (ev_congr (fun k => ?_) (ih (n + 1) (by omega)))
    simp only [impl_readMembers.l0, byte_wrap]
    rw [if_pos (by omega), if_pos (by omega), if_pos (by omega), if_pos (by rw [List.length_take]; omega), snoc_bytes s n (by omega), wrap_in (by omega) (by omega)]
    rfl
theorem impl_readMembers_ev (s : ByteArray) (hs : s.size ≤ 1048576) : Ev (fun k => impl_readMembers.f k s) (bytesOf s, mOK s) := by
  have := impl_members s hs s.size 0 (by omega)
  exact this

/-- Whether an entry is right: both say the same. -/
theorem entry_same (a b : Int) (c : ByteArray) (hc : c.size ≤ 1048576) : ∃ r, Ev (fun k => spec_l02Entry.f k a b c) r ∧ Ev (fun k => impl_entryOK.f k a b c) r := by
  unfold spec_l02Entry.f impl_entryOK.f
  have e0 : spec_l01In.f a 1 1000000 = impl_within.f a 1 1000000 := rfl
  rw [e0]
  obtain ⟨q, hq⟩ : ∃ q, impl_within.f a 1 1000000 = some q := by unfold impl_within.f; split <;> exact ⟨_, rfl⟩
  rw [hq]
  simp only [Option.bind_some]
  cases q with
  | false => exact ⟨false, ev_if_neg (by simp) (ev_some _), ev_if_neg (by simp) (ev_some _)⟩
  | true =>
    by_cases b0 : b = 0
    · exact ⟨_, ev_if_pos rfl (ev_if_pos b0 (ev_some _)), ev_if_pos rfl (ev_if_pos b0 (ev_some _))⟩
    · by_cases b1 : b = 1
      · by_cases hs : (c.size : Int) ≥ 1
        · refine ⟨decide ((c.size : Int) ≤ 100), ev_if_pos rfl (ev_if_neg b0 (ev_if_pos b1 (ev_if_pos hs (ev_some _)))), ev_if_pos rfl (ev_if_neg b0 (ev_if_pos b1 ?_))⟩
          have e : impl_within.f (c.size : Int) 1 100 = some (decide ((c.size : Int) ≤ 100)) := by unfold impl_within.f; rw [if_pos hs]
          rw [e]
          exact ev_some _
        · refine ⟨false, ev_if_pos rfl (ev_if_neg b0 (ev_if_pos b1 (ev_if_neg hs (ev_some _)))), ev_if_pos rfl (ev_if_neg b0 (ev_if_pos b1 ?_))⟩
          have e : impl_within.f (c.size : Int) 1 100 = some false := by unfold impl_within.f; rw [if_neg hs]
          rw [e]
          exact ev_some _
      · by_cases b2 : b = 2
        · obtain ⟨l, hl, _⟩ := spec_l02Members_ev c hc
          have hr := impl_readMembers_ev c hc
          exact ⟨mOK c, ev_if_pos rfl (ev_if_neg b0 (ev_if_neg b1 (ev_if_pos b2 (ev_bind hl (ev_some _))))), ev_if_pos rfl (ev_if_neg b0 (ev_if_neg b1 (ev_if_pos b2 (ev_bind hr (ev_some _)))))⟩
        · exact ⟨false, ev_if_pos rfl (ev_if_neg b0 (ev_if_neg b1 (ev_if_neg b2 (ev_some _)))), ev_if_pos rfl (ev_if_neg b0 (ev_if_neg b1 (ev_if_neg b2 (ev_some _))))⟩

/-- What the program's number writes. -/
theorem number_from (m : Nat) (hm : m ≤ 1000) (i : Nat) : ∀ (n : Int) (x : List Int), i ≤ m → x.length = m → Ev (fun k => impl_number.l0 k n x ((i : Int) - 1)) (strOfNums (BE n i ++ x.drop i)) := by
  induction i with
  | zero =>
    intro n x hi hx
    refine ev_succ (ev_of_eq fun k => ?_)
    simp only [impl_number.l0]
    rw [if_neg (by omega)]
    rfl
  | succ i ih =>
    intro n x hi hx
    have h := ih (n / 256) (x.set i (n % 256)) (by omega) (by rw [List.length_set, hx])
    have he : BE (n / 256) i ++ (x.set i (n % 256)).drop i = BE n (i + 1) ++ x.drop (i + 1) := by
      have hd : (x.set i (n % 256)).drop i = (n % 256) :: x.drop (i + 1) := by
        rw [List.drop_eq_getElem_cons (by rw [List.length_set]; omega), List.getElem_set_self, List.drop_set_of_lt (by omega)]
      rw [hd, BE, List.append_assoc]
      rfl
    rw [he] at h
    refine ev_succ (ev_congr (fun k => ?_) h)
    simp only [impl_number.l0]
    rw [show (((i + 1 : Nat) : Int) - 1) = (i : Int) from by omega, if_pos (by omega), if_pos (by omega), if_pos (by omega), Int.toNat_natCast, wrap_in (x := (i : Int) - 1) (by omega) (by omega)]
theorem number_ev (n : Int) (m : Nat) (hm : m ≤ 1000) : Ev (fun k => impl_number.f k n (m : Int)) (strOfNums (BE n m)) := by
  have h := number_from m hm m n (List.replicate m 0) (Nat.le_refl _) (by simp)
  rw [List.drop_of_length_le (by simp), List.append_nil] at h
  refine ev_congr (fun k => ?_) h
  unfold impl_number.f
  rw [if_pos (by omega), if_pos (by omega), Int.toNat_natCast, wrap_in (by omega) (by omega)]

theorem BEl4 (n : Int) : BE n 4 = [n / 256 / 256 / 256 % 256, n / 256 / 256 % 256, n / 256 % 256, n % 256] := rfl
theorem four_is (c : Int) : spec_l02Four.f c = some (BE c 4) := by
  unfold spec_l02Four.f
  rw [BEl4]
  congr 1
  have e1 : c / 16777216 = c / 256 / 256 / 256 := by omega
  have e2 : c / 65536 = c / 256 / 256 := by omega
  rw [e1, e2]
/-- The bytes of an entry. -/
def ebytes (a b : Int) (s : ByteArray) : ByteArray := strOfNums (BE a 4) ++ strOfNums (BE b 1) ++ (strOfNums (BE (s.size : Int) 1) ++ s)
theorem ebytes_size (a b : Int) (s : ByteArray) : (ebytes a b s).size = 6 + s.size := by
  unfold ebytes
  simp only [ByteArray.size_append, size_strOfNums, BE_length]
  omega
theorem impl_ebytes (a b : Int) (s : ByteArray) (hs : s.size ≤ 1048576) : Ev (fun k => impl_Entry_bytes.f k a b s) (ebytes a b s) := by
  unfold impl_Entry_bytes.f impl_counted.f
  have h4 := number_ev a 4 (by omega)
  have h1 := number_ev b 1 (by omega)
  have hc := number_ev (s.size : Int) 1 (by omega)
  refine ev_bind h4 (ev_bind h1 (ev_if_pos (by simp only [size_strOfNums, BE_length]; omega) (ev_bind (ev_bind hc (ev_if_pos (by simp only [size_strOfNums, BE_length]; omega) (ev_some _))) (ev_if_pos (by simp only [ByteArray.size_append, size_strOfNums, BE_length]; omega) (ev_some _)))))
theorem spec_ebytes (a b : Int) (s : ByteArray) (hs : s.size ≤ 1048576) : ∃ l : List Int, spec_l02EntryBytes.f a b s = some l ∧ strOfNums l = ebytes a b s ∧ l.length = 6 + s.size := by
  unfold spec_l02EntryBytes.f
  rw [if_pos (by omega), four_is]
  refine ⟨_, rfl, ?_, ?_⟩
  · rw [strOfNums_append, strOfNums_bytesOf]
    unfold ebytes
    rw [← ByteArray.append_assoc, ← strOfNums_append, ← strOfNums_append, IntKind.wrap_u8, IntKind.wrap_u8, List.append_assoc]
    rfl
  · rw [List.length_append, bytesOf_length, List.length_append, BE_length]
    rfl

theorem eqByteS_ev (l : List Int) (hl : l.length ≤ 100000000) : Ev (fun k => laws_eqByteS.f k l l) true := by
  have key := ev_loop (fun k (i : Int) => laws_eqByteS.l0 k l l i) (fun i => 0 ≤ i ∧ i ≤ l.length) (fun i => l.length - i.toNat) (fun _ => true) (by
    rintro i ⟨h0, h1⟩
    by_cases hi : i < (l.length : Int)
    · right
      refine ⟨i + 1, ⟨by omega, by omega⟩, by omega, rfl, 0, fun j _ => ?_⟩
      simp only [laws_eqByteS.l0]
      rw [if_pos hi, if_pos h0, if_pos hi, if_pos trivial, wrap_in (by omega) (by omega)]
    · left
      refine ⟨0, fun j _ => ?_⟩
      simp only [laws_eqByteS.l0]
      rw [if_neg hi])
  refine ev_congr (fun k => ?_) (key 0 ⟨by omega, by omega⟩)
  unfold laws_eqByteS.f
  rw [if_pos rfl]

/-- What the marks are: 1, 2, 3, .. -/
def marksB (n : Nat) : List Int := (List.range n).map fun i => (((i : Nat) : Int) + 1) % 256
theorem marksB_length (n : Nat) : (marksB n).length = n := by simp [marksB]
theorem marksB_get (n i : Nat) (h : i < n) : (marksB n).getD i 0 = ((i : Int) + 1) % 256 := by
  unfold marksB
  rw [List.getD_eq_getElem?_getD, List.getElem?_map, List.getElem?_range h]
  rfl
theorem markByteS_is (l : List Int) (hl : l.length ≤ 100000000) : Ev (fun k => laws_markByteS.f k l 1) ((l.length : Int) + 1, marksB l.length) := by
  have key := ev_loop (fun k (s : List Int × Int) => laws_markByteS.l0 k s.1 (s.2 + 1) s.2) (fun s => 0 ≤ s.2 ∧ s.2 ≤ l.length ∧ s.1.length = l.length ∧ ∀ j : Nat, j < s.2.toNat → s.1[j]? = (marksB l.length)[j]?) (fun s => l.length - s.2.toNat) (fun _ => ((l.length : Int) + 1, marksB l.length)) (by
    rintro ⟨x, i⟩ ⟨h0, h1, h2, h3⟩
    simp only at h0 h1 h2 h3
    have hml := marksB_length l.length
    by_cases hi : i < (l.length : Int)
    · right
      obtain ⟨hs1, hs2⟩ := copy_step (marksB l.length) x i.toNat 0 (by rw [hml]; exact h2) (by rw [hml]; omega) h3
      have hg := marksB_get l.length i.toNat (by omega)
      rw [hg] at hs1 hs2
      rw [hml] at hs1
      have hc : ((i.toNat : Nat) : Int) + 1 = i + 1 := by omega
      rw [hc] at hs1 hs2
      refine ⟨(x.set i.toNat ((i + 1) % 256), i + 1), ⟨by simp only; omega, by simp only; omega, hs1, fun j hj => hs2 j (by simp only at hj; omega)⟩, by simp only; omega, rfl, 0, fun j _ => ?_⟩
      show laws_markByteS.l0 (j + 1) x (i + 1) i = laws_markByteS.l0 j (x.set i.toNat ((i + 1) % 256)) (i + 1 + 1) (i + 1)
      simp only [laws_markByteS.l0]
      rw [if_pos (by omega), if_pos h0, wrap_in (x := i + 1 + 1) (by omega) (by omega), wrap_in (x := i + 1) (by omega) (by omega)]
    · left
      refine ⟨0, fun j _ => ?_⟩
      show laws_markByteS.l0 (j + 1) x (i + 1) i = _
      simp only [laws_markByteS.l0]
      rw [if_neg (by omega), copy_end (marksB l.length) x (by rw [hml]; exact h2) (fun j hj => h3 j (by rw [hml] at hj; omega)), show i + 1 = (l.length : Int) + 1 from by omega])
  have := key (l, 0) ⟨by simp, by simp, rfl, fun j hj => absurd hj (by simp)⟩
  exact this
theorem heldByteS_is (n : Nat) (hl : n ≤ 100000000) : Ev (fun k => laws_heldByteS.f k (marksB n) 1) ((n : Int) + 1) := by
  have hml := marksB_length n
  have key := ev_loop (fun k (i : Int) => laws_heldByteS.l0 k (marksB n) (i + 1) i) (fun i => 0 ≤ i ∧ i ≤ n) (fun i => n - i.toNat) (fun _ => (n : Int) + 1) (by
    rintro i ⟨h0, h1⟩
    by_cases hi : i < (n : Int)
    · right
      have hg := marksB_get n i.toNat (by omega)
      have hr : rd (marksB n) i = (i + 1) % 256 := by unfold rd; rw [hg, Int.toNat_of_nonneg h0]
      refine ⟨i + 1, ⟨by omega, by omega⟩, by omega, rfl, 0, fun j _ => ?_⟩
      simp only [laws_heldByteS.l0]
      rw [if_pos (by rw [hml]; omega), if_pos h0, if_pos hr, wrap_in (x := i + 1 + 1) (by omega) (by omega), wrap_in (x := i + 1) (by omega) (by omega)]
    · left
      refine ⟨0, fun j _ => ?_⟩
      simp only [laws_heldByteS.l0]
      rw [if_neg (by rw [hml]; omega), show i + 1 = (n : Int) + 1 from by omega])
  exact key 0 ⟨by omega, by omega⟩

theorem spec_ebytes_is (a b : Int) (s : ByteArray) (hs : s.size ≤ 1048576) : spec_l02EntryBytes.f a b s = some (bytesOf (ebytes a b s)) := by
  obtain ⟨l, h1, h2, h3⟩ := spec_ebytes a b s hs
  have hl : ∀ x ∈ l, 0 ≤ x ∧ x < 256 := by
    unfold spec_l02EntryBytes.f at h1
    rw [if_pos (by omega), four_is] at h1
    obtain rfl := Option.some.inj h1
    intro x hx
    rw [IntKind.wrap_u8, IntKind.wrap_u8] at hx
    simp only [List.mem_append, List.mem_cons, List.not_mem_nil, or_false] at hx
    rcases hx with (hx | hx | hx) | hx
    · exact BE_range 4 a x hx
    · omega
    · omega
    · exact bytesOf_range s x hx
  rw [h1, ← h2, bytesOf_strOfNums l hl]
theorem FnExactEntryBytes : laws_FnExactEntryBytes.Pure := by
  intro t u d _ _ hd
  refine Ev.rounds (r := true) ?_
  unfold laws_FnExactEntryBytes.f
  unfold maxLen at hd
  have hz : laws_szEntry.f t u d 1048576 = some (if (d.size : Int) ≤ 1048576 then 1048576 - (d.size : Int) else -1) := by
    unfold laws_szEntry.f
    have w : wrap64 (1048576 - (d.size : Int)) = 1048576 - (d.size : Int) := wrap_in (by omega) (by omega)
    rw [w]
    clear w
    by_cases h : (d.size : Int) ≤ 1048576
    · rw [if_neg (by omega), if_pos h]
    · rw [if_pos (by omega), if_neg h]
  rw [hz]
  clear hz
  by_cases h : (d.size : Int) ≤ 1048576
  · rw [if_pos h]
    simp only [Option.bind_some]
    refine ev_if_neg (by omega) ?_
    have hs := ebytes_size t u d
    obtain ⟨r, h1, h2⟩ := entry_same t u d (by omega)
    cases r with
    | true =>
      have hsp : Ev (fun k => spec_EntryBytes.f k t u d) (bytesOf (ebytes t u d), 0) := by
        unfold spec_EntryBytes.f
        refine ev_bind h1 (ev_if_pos (by first | rfl | trivial) ?_)
        rw [spec_ebytes_is t u d (by omega)]
        exact ev_some _
      have hl : (bytesOf (ebytes t u d)).length ≤ 1048576 + 6 := by rw [bytesOf_length]; omega
      have hq := eqByteS_ev (bytesOf (ebytes t u d)) (by omega)
      have hm := markByteS_is (bytesOf (ebytes t u d)) (by omega)
      have hh := heldByteS_is (bytesOf (ebytes t u d)).length (by omega)
      refine ev_bind hsp (ev_bind h2 (ev_bind hq (ev_bind hm (ev_bind hh (ev_if_pos (by first | rfl | trivial) (ev_bind (impl_ebytes t u d (by omega)) (ev_if_pos ⟨by omega, rfl, rfl, rfl, by omega⟩ (ev_some _))))))))
    | false =>
      have hsp : Ev (fun k => spec_EntryBytes.f k t u d) ([], 1) := by
        unfold spec_EntryBytes.f
        exact ev_bind h1 (ev_if_neg (by simp) (ev_some _))
      have hq := eqByteS_ev [] (by simp)
      have hm := markByteS_is [] (by simp)
      have hh := heldByteS_is 0 (by simp)
      exact ev_bind hsp (ev_bind h2 (ev_bind hq (ev_bind hm (ev_bind hh (ev_if_neg (by simp) (ev_if_pos ⟨rfl, rfl, rfl, rfl⟩ (ev_some _)))))))
  · rw [if_neg h]
    exact ev_of_eq fun k => by simp
end Go.Proofs.Ytbkgjjiceldjeaa.Pure
