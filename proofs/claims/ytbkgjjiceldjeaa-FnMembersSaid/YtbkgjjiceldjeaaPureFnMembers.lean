/- Members are read back from a config's data: the plain form of the law. No conditions. -/
import Derived.Test.YtbkgjjiceldjeaaPFnMembersx3
import Derived.Test.YtbkgjjiceldjeaaU
namespace Go.Proofs.Ytbkgjjiceldjeaa.Pure
open Go.RowKit Go.Proofs.Ytbkgjjiceldjeaa.PFnMembers Go.Proofs.YtbkgjjiceldjeaaW.PrintWords Go.Proofs.YtbkgjjiceldjeaaW.PrintLast Go.Proofs.YtbkgjjiceldjeaaW.PrintMore Go.Proofs.Ytbkgjjiceldjeaa.U
/-- What members' data must be, up to place n. -/
def okTo (s : ByteArray) : Nat → Bool
  | 0 => true
  | n + 1 => okTo s n && decide (bt s (n : Int) ≤ 6) && (decide (n = 0) || decide (bt s ((n : Int) - 1) < bt s (n : Int)))
def mOK (s : ByteArray) : Bool := decide (0 < s.size) && okTo s s.size
theorem okTo_mono (s : ByteArray) (a b : Nat) (h : a ≤ b) (hb : okTo s b = true) : okTo s a = true := by
  induction b with
  | zero => obtain rfl : a = 0 := by omega
            exact hb
  | succ b ih =>
    rcases Nat.lt_or_ge b a with hlt | hge
    · obtain rfl : a = b + 1 := by omega
      exact hb
    · simp only [okTo, Bool.and_eq_true] at hb
      exact ih hge hb.1.1
theorem byte_wrap (s : ByteArray) (i : Int) : wrap64 (bt s i) = bt s i := by
  have := bt_range s i
  exact wrap_in (by omega) (by omega)
theorem snoc_bytes (s : ByteArray) (n : Nat) (h : n < s.size) : (bytesOf s).take n ++ [bt s (n : Int)] = (bytesOf s).take (n + 1) := by
  have hl := bytesOf_length s
  rw [List.take_succ_eq_append_getElem (by omega), ← rd_bytesOf]
  unfold rd
  rw [Int.toNat_natCast, List.getD_eq_getElem?_getD, List.getElem?_eq_getElem (by omega), Option.getD_some]
theorem spec_members (s : ByteArray) (hs : s.size ≤ 1048576) (d : Nat) : ∀ n : Nat, n + d = s.size → okTo s n = true →
    Ev (fun k => spec_l02Members.l0 k s ((bytesOf s).take n) (n : Int)) (if mOK s then bytesOf s else (if okTo s s.size then bytesOf s else []), mOK s) := by
  have hl := bytesOf_length s
  induction d with
  | zero =>
    intro n hn ho
    obtain rfl : n = s.size := by omega
    refine ev_succ (ev_of_eq fun k => ?_)
    simp only [spec_l02Members.l0]
    rw [if_neg (by omega), List.take_of_length_le (by omega), ho]
    have e : mOK s = decide (((bytesOf s).length : Int) > 0) := by
      unfold mOK
      rw [ho, Bool.and_true, hl]
      rw [Bool.eq_iff_iff]; simp
    rw [e]
    split <;> rfl
  | succ d ih =>
    intro n hn ho
    have hb := bt_range s (n : Int)
    have hlt : ((bytesOf s).take n).length < 17592186044416 := by rw [List.length_take]; omega
    have hin : spec_l01In.f (bt s (n : Int)) 0 6 = some (decide (bt s (n : Int) ≤ 6)) := by unfold spec_l01In.f; rw [if_pos hb.1]
    have hbad : okTo s (n + 1) = false → mOK s = false ∧ okTo s s.size = false := by
      intro h
      have : okTo s s.size = false := by
        rw [Bool.eq_false_iff]
        intro ht
        rw [okTo_mono s (n + 1) s.size (by omega) ht] at h
        exact Bool.noConfusion h
      exact ⟨by unfold mOK; rw [this, Bool.and_false], this⟩
    by_cases h6 : bt s (n : Int) ≤ 6
    · by_cases hn0 : n = 0
      · subst hn0
        have hok : okTo s (0 + 1) = true := by simp [okTo]; exact h6
        refine ev_succ (ev_congr (fun k => ?_) (ih (0 + 1) (by omega) hok))
        simp only [spec_l02Members.l0, byte_wrap, hin, Option.bind_some]
        rw [if_pos (by omega), if_pos (by omega), if_pos (by simpa using h6), if_neg (by omega), if_pos hlt, snoc_bytes s 0 (by omega), wrap_in (by omega) (by omega)]
        rfl
      · have hp : wrap64 ((n : Int) - 1) = (n : Int) - 1 := wrap_in (by omega) (by omega)
        by_cases hr : bt s ((n : Int) - 1) < bt s (n : Int)
        · have hok : okTo s (n + 1) = true := by simp [okTo, ho, h6, hr]
          refine ev_succ (ev_congr (fun k => ?_) (ih (n + 1) (by omega) hok))
          simp only [spec_l02Members.l0, byte_wrap, hin, Option.bind_some, hp]
          rw [if_pos (by omega), if_pos (by omega), if_pos (by simpa using h6), if_pos (by omega), if_pos (by omega), if_pos (by omega), if_neg (by omega), if_pos hlt, snoc_bytes s n (by omega), wrap_in (by omega) (by omega)]
          rfl
        · have hok : okTo s (n + 1) = false := by simp [okTo, ho, h6, hr, hn0]
          obtain ⟨h1, h2⟩ := hbad hok
          refine ev_succ (ev_of_eq fun k => ?_)
          simp only [spec_l02Members.l0, byte_wrap, hin, Option.bind_some, hp]
          rw [if_pos (by omega), if_pos (by omega), if_pos (by simpa using h6), if_pos (by omega), if_pos (by omega), if_pos (by omega), if_pos (by omega), h1, h2]
          rfl
    · have hok : okTo s (n + 1) = false := by simp [okTo, h6]
      obtain ⟨h1, h2⟩ := hbad hok
      refine ev_succ (ev_of_eq fun k => ?_)
      simp only [spec_l02Members.l0, byte_wrap, hin, Option.bind_some]
      rw [if_pos (by omega), if_pos (by omega), if_neg (by simpa using h6), h1, h2]
      rfl
/-- The numbers rise, up to place n. -/
def riseTo (s : ByteArray) : Nat → Bool
  | 0 => true
  | n + 1 => riseTo s n && (decide (n = 0) || decide (bt s ((n : Int) - 1) < bt s (n : Int)))
def smallTo (s : ByteArray) : Nat → Bool
  | 0 => true
  | n + 1 => smallTo s n && decide (bt s (n : Int) ≤ 6)
theorem okTo_eq (s : ByteArray) (n : Nat) : okTo s n = (smallTo s n && riseTo s n) := by
  induction n with
  | zero => rfl
  | succ n ih =>
    simp only [okTo, smallTo, riseTo, ih]
    cases smallTo s n <;> cases riseTo s n <;> cases decide (bt s (n : Int) ≤ 6) <;> simp
theorem riseTo_mono (s : ByteArray) (a b : Nat) (h : a ≤ b) (hb : riseTo s b = true) : riseTo s a = true := by
  induction b with
  | zero => obtain rfl : a = 0 := by omega
            exact hb
  | succ b ih =>
    rcases Nat.lt_or_ge b a with hlt | hge
    · obtain rfl : a = b + 1 := by omega
      exact hb
    · simp only [riseTo, Bool.and_eq_true] at hb
      exact ih hge hb.1
theorem numbers_eq (s : ByteArray) : impl_areNumbers.f (bytesOf s) = some (smallTo s s.size) := by
  have hl := bytesOf_length s
  have key : ∀ n : Nat, n ≤ s.size → (!(((bytesOf s).take n).any impl_areNumbers.p)) = smallTo s n := by
    intro n
    induction n with
    | zero => intro _; rfl
    | succ n ih =>
      intro hn
      rw [← snoc_bytes s n (by omega), List.any_append, Bool.not_or, ih (by omega)]
      have hb := bt_range s (n : Int)
      simp only [smallTo, List.any_cons, List.any_nil, Bool.or_false, impl_areNumbers.p, Bool.not_not]
      rw [if_pos hb.1]
  unfold impl_areNumbers.f
  rw [← key s.size (Nat.le_refl _), List.take_of_length_le (by omega)]
theorem rising_ev (s : ByteArray) (hs : s.size ≤ 1048576) (d : Nat) : ∀ n : Nat, 1 ≤ n → n + d = s.size → riseTo s n = true → Ev (fun k => impl_areRising.l0 k (bytesOf s) (n : Int)) (riseTo s s.size) := by
  have hl := bytesOf_length s
  induction d with
  | zero =>
    intro n h1 hn hr
    obtain rfl : n = s.size := by omega
    refine ev_succ (ev_of_eq fun k => ?_)
    simp only [impl_areRising.l0]
    rw [if_neg (by omega), hr]
  | succ d ih =>
    intro n h1 hn hr
    have hp : wrap64 ((n : Int) - 1) = (n : Int) - 1 := wrap_in (by omega) (by omega)
    by_cases hlt : bt s ((n : Int) - 1) < bt s (n : Int)
    · refine ev_succ (ev_congr (fun k => ?_) (ih (n + 1) (by omega) (by omega) (by simp [riseTo, hr, hlt])))
      simp only [impl_areRising.l0, hp, rd_bytesOf]
      rw [if_pos (by omega), if_pos (by omega), if_pos (by omega), if_pos (by omega), if_neg (by omega), wrap_in (by omega) (by omega)]
      rfl
    · have hf : riseTo s s.size = false := by
        rw [Bool.eq_false_iff]
        intro ht
        have := riseTo_mono s (n + 1) s.size (by omega) ht
        simp only [riseTo, Bool.and_eq_true, Bool.or_eq_true, decide_eq_true_eq] at this
        omega
      refine ev_succ (ev_of_eq fun k => ?_)
      simp only [impl_areRising.l0, hp, rd_bytesOf]
      rw [if_pos (by omega), if_pos (by omega), if_pos (by omega), if_pos (by omega), if_pos (by omega), hf]
theorem membersOK_ev (s : ByteArray) (hs : s.size ≤ 1048576) : Ev (fun k => impl_membersOK.f k (bytesOf s)) (mOK s) := by
  have hl := bytesOf_length s
  unfold impl_membersOK.f mOK
  rw [numbers_eq]
  simp only [Option.bind_some]
  by_cases h0 : 0 < s.size
  · refine ev_if_pos (by omega) ?_
    rw [okTo_eq]
    cases hm : smallTo s s.size with
    | false => simp only [Bool.false_and, Bool.and_false]; exact ev_if_neg (by simp) (ev_some _)
    | true =>
      simp only [Bool.true_and]
      rw [decide_eq_true h0, Bool.true_and]
      refine ev_if_pos trivial ?_
      have hr1 : riseTo s 1 = true := by simp [riseTo]
      have := rising_ev s hs (s.size - 1) 1 (Nat.le_refl _) (by omega) hr1
      exact ev_bind (g := fun k => impl_areRising.f k (bytesOf s)) this (ev_some _)
  · rw [decide_eq_false h0, Bool.false_and]
    exact ev_if_neg (by omega) (ev_some _)
theorem spec_l02Members_ev (s : ByteArray) (hs : s.size ≤ 1048576) : ∃ l, Ev (fun k => spec_l02Members.f k s) (l, mOK s) ∧ (mOK s = true → l = bytesOf s) := by
  have := spec_members s hs s.size 0 (by omega) rfl
  exact ⟨_, this, fun h => by rw [if_pos h]⟩

/-- What the program's number writes. -/
theorem number_from (m : Nat) (hm : m ≤ 1000) (i : Nat) : ∀ (n : Int) (x : List Int), i ≤ m → x.length = m → Ev (fun k => impl_number.l0 k n x ((i : Int) - 1)) (strOfNums (BE n i ++ x.drop i)) := by
  induction i with
  | zero =>
    intro n x hi hx
    refine ev_succ (ev_of_eq fun k => ?_)
    simp only [impl_number.l0]
    rw [if_neg (by omega)]
    rfl
  | succ i ih =>
    intro n x hi hx
    have h := ih (n / 256) (x.set i (n % 256)) (by omega) (by rw [List.length_set, hx])
    have he : BE (n / 256) i ++ (x.set i (n % 256)).drop i = BE n (i + 1) ++ x.drop (i + 1) := by
      have hd : (x.set i (n % 256)).drop i = (n % 256) :: x.drop (i + 1) := by
        rw [List.drop_eq_getElem_cons (by rw [List.length_set]; omega), List.getElem_set_self, List.drop_set_of_lt (by omega)]
      rw [hd, BE, List.append_assoc]
      rfl
    rw [he] at h
    refine ev_succ (ev_congr (fun k => ?_) h)
    simp only [impl_number.l0]
    rw [show (((i + 1 : Nat) : Int) - 1) = (i : Int) from by omega, if_pos (by omega), if_pos (by omega), if_pos (by omega), Int.toNat_natCast, wrap_in (x := (i : Int) - 1) (by omega) (by omega)]
theorem number_ev (n : Int) (m : Nat) (hm : m ≤ 1000) : Ev (fun k => impl_number.f k n (m : Int)) (strOfNums (BE n m)) := by
  have h := number_from m hm m n (List.replicate m 0) (Nat.le_refl _) (by simp)
  rw [List.drop_of_length_le (by simp), List.append_nil] at h
  refine ev_congr (fun k => ?_) h
  unfold impl_number.f
  rw [if_pos (by omega), if_pos (by omega), Int.toNat_natCast, wrap_in (by omega) (by omega)]

/-- The numbers are those of nodes. -/
def allSix (l : List Int) : Bool := l.all fun n => decide (0 ≤ n ∧ n ≤ 6)
theorem areNumbers_eq (l : List Int) : impl_areNumbers.f l = some (allSix l) := by
  unfold impl_areNumbers.f allSix
  rw [Option.some.injEq]
  induction l with
  | nil => rfl
  | cons a l ih =>
    simp only [List.any_cons, List.all_cons, Bool.not_or, ih]
    congr 1
    unfold impl_areNumbers.p
    by_cases h : a ≥ 0
    · rw [if_pos h, Bool.not_not, Bool.eq_iff_iff]
      simp [h]
    · rw [if_neg h, Bool.not_not, eq_comm, decide_eq_false_iff_not]
      omega
theorem allSix_get (l : List Int) (h : allSix l = true) (x : Int) (hx : x ∈ l) : 0 ≤ x ∧ x ≤ 6 := by
  unfold allSix at h
  rw [List.all_eq_true] at h
  simpa using h x hx
theorem membersData_ev (l : List Int) (hl : l.length ≤ 1048576) (h6 : ∀ x ∈ l, 0 ≤ x ∧ x ≤ 6) (d : Nat) : ∀ n : Nat, n + d = l.length → Ev (fun k => impl_membersData.l0 k (strOfNums (l.take n)) l (l.length : Int) (n : Int)) (strOfNums l) := by
  induction d with
  | zero =>
    intro n hn
    refine ev_succ (ev_of_eq fun k => ?_)
    simp only [impl_membersData.l0]
    rw [if_neg (by omega), List.take_of_length_le (by omega)]
  | succ d ih =>
    intro n hn
    have hx := h6 _ (rd_mem l n (by omega))
    have hBE : BE (rd l (n : Int)) 1 = [rd l (n : Int)] := by simp only [BE, List.nil_append]; rw [show rd l (n : Int) % 256 = rd l (n : Int) from by omega]
    have hnum := number_ev (rd l (n : Int)) 1 (by omega)
    rw [hBE] at hnum
    have h := ih (n + 1) (by omega)
    rw [← take_snoc_rd l n (by omega), strOfNums_append] at h
    have hsz : (strOfNums (l.take n)).size + (strOfNums [rd l (n : Int)]).size ≤ 9223372036854775807 := by
      rw [size_strOfNums, size_strOfNums, List.length_take, List.length_singleton]
      omega
    refine ev_succ ?_
    simp only [impl_membersData.l0]
    refine ev_if_pos (by omega) (ev_if_pos (by omega) (ev_if_pos (by omega) (ev_bind hnum (ev_if_pos hsz ?_))))
    rw [wrap_in (by omega) (by omega)]
    exact h
theorem spec_collect (l : List Int) (hl : l.length ≤ 4096) (d : Nat) : ∀ n : Nat, n + d = l.length → (∀ x ∈ l.take n, 0 ≤ x ∧ x ≤ 6) →
    Ev (fun k => spec_MembersData.l0 k l (l.take n) (n : Int)) (if allSix l then (if mOK (strOfNums l) then (strOfNums l, 0) else ((⟨#[]⟩ : ByteArray), 1)) else ((⟨#[]⟩ : ByteArray), 4)) := by
  induction d with
  | zero =>
    intro n hn h6
    rw [List.take_of_length_le (by omega)] at h6 ⊢
    have ha : allSix l = true := by unfold allSix; rw [List.all_eq_true]; intro x hx; simpa using h6 x hx
    rw [ha, if_pos rfl]
    obtain ⟨q, hq, _⟩ := spec_l02Members_ev (strOfNums l) (by rw [size_strOfNums]; omega)
    refine ev_succ ?_
    simp only [spec_MembersData.l0]
    refine ev_if_neg (by omega) (ev_bind hq ?_)
    cases hm : mOK (strOfNums l) with
    | true => exact ev_if_pos rfl (ev_some _)
    | false => exact ev_if_neg (by simp) (ev_some _)
  | succ d ih =>
    intro n hn h6
    by_cases hx : 0 ≤ rd l (n : Int) ∧ rd l (n : Int) ≤ 6
    · have hin : spec_l01In.f (rd l (n : Int)) 0 6 = some true := by unfold spec_l01In.f; rw [if_pos (by omega), decide_eq_true hx.2]
      have h := ih (n + 1) (by omega) (by
        intro x hm
        rw [← take_snoc_rd l n (by omega), List.mem_append, List.mem_singleton] at hm
        rcases hm with hm | rfl
        · exact h6 x hm
        · exact hx)
      refine ev_succ (ev_congr (fun k => ?_) h)
      simp only [spec_MembersData.l0, hin, Option.bind_some]
      rw [if_pos (by omega), if_pos (by omega), if_pos trivial, if_pos (by rw [List.length_take]; omega), show rd l (n : Int) % 256 = rd l (n : Int) from by omega, take_snoc_rd l n (by omega), wrap_in (by omega) (by omega)]
      rfl
    · have hin : spec_l01In.f (rd l (n : Int)) 0 6 = some false := by
        unfold spec_l01In.f
        split
        · rw [decide_eq_false (by omega)]
        · rfl
      have ha : allSix l = false := by
        rw [Bool.eq_false_iff]
        intro ht
        exact hx (allSix_get l ht _ (rd_mem l n (by omega)))
      rw [ha]
      refine ev_succ (ev_of_eq fun k => ?_)
      simp only [spec_MembersData.l0, hin, Option.bind_some]
      rw [if_pos (by omega), if_pos (by omega), if_neg (by simp), if_neg (by simp)]
/-- What MembersData answers. -/
def mdata (l : List Int) : ByteArray × Int := if l.length > 4096 then ((⟨#[]⟩ : ByteArray), 2) else if allSix l then (if mOK (strOfNums l) then (strOfNums l, 0) else ((⟨#[]⟩ : ByteArray), 1)) else ((⟨#[]⟩ : ByteArray), 4)
theorem spec_MembersData_ev (l : List Int) : Ev (fun k => spec_MembersData.f k l) (mdata l) := by
  unfold spec_MembersData.f mdata
  by_cases h : l.length > 4096
  · rw [if_pos h]
    exact ev_if_pos (by omega) (ev_some _)
  · rw [if_neg h]
    have := spec_collect l (by omega) l.length 0 (by omega) (by simp)
    exact ev_if_neg (by omega) this
theorem impl_MembersData_ev (l : List Int) : Ev (fun k => impl_MembersData.f k l) (mdata l) := by
  unfold impl_MembersData.f mdata impl_isList_int.f
  rw [areNumbers_eq]
  simp only [Option.bind_some]
  by_cases h : l.length > 4096
  · rw [if_pos h]
    exact ev_if_neg (by simp; omega) (ev_some _)
  · rw [if_neg h]
    refine ev_if_pos (by simp; omega) ?_
    cases ha : allSix l with
    | false => exact ev_if_neg (by simp) (ev_some _)
    | true =>
      have h6 := allSix_get l ha
      have hb : bytesOf (strOfNums l) = l := bytesOf_strOfNums l (fun x hx => by have := h6 x hx; omega)
      have hm := membersOK_ev (strOfNums l) (by rw [size_strOfNums]; omega)
      rw [hb] at hm
      refine ev_if_pos rfl (ev_bind hm ?_)
      cases hmo : mOK (strOfNums l) with
      | false => exact ev_if_neg (by simp) (ev_some _)
      | true =>
        have hd := membersData_ev l (by omega) h6 l.length 0 (by omega)
        exact ev_if_pos rfl (ev_bind (g := fun k => impl_membersData.f k l) hd (ev_some _))

theorem impl_members (s : ByteArray) (hs : s.size ≤ 1048576) (d : Nat) : ∀ n : Nat, n + d = s.size → Ev (fun k => impl_readMembers.l0 k s ((bytesOf s).take n) (s.size : Int) (n : Int)) (bytesOf s, mOK s) := by
  have hl := bytesOf_length s
  induction d with
  | zero =>
    intro n hn
    obtain rfl : n = s.size := by omega
    refine ev_succ (ev_congr (fun k => ?_) (ev_bind (f := fun _ t => some (bytesOf s, t)) (membersOK_ev s hs) (ev_some _)))
    simp only [impl_readMembers.l0]
    rw [if_neg (by omega), List.take_of_length_le (by omega)]
  | succ d ih =>
    intro n hn
    refine ev_succ (ev_congr (fun k => ?_) (ih (n + 1) (by omega)))
    simp only [impl_readMembers.l0, byte_wrap]
    rw [if_pos (by omega), if_pos (by omega), if_pos (by omega), if_pos (by rw [List.length_take]; omega), snoc_bytes s n (by omega), wrap_in (by omega) (by omega)]
    rfl
theorem impl_readMembers_ev (s : ByteArray) (hs : s.size ≤ 1048576) : Ev (fun k => impl_readMembers.f k s) (bytesOf s, mOK s) := by
  have := impl_members s hs s.size 0 (by omega)
  exact this

theorem isText_one (h : ByteArray) : impl_isText.f [h] = some (decide ((h.size : Int) ≤ 65536)) := by
  unfold impl_isText.f impl_isText.p
  simp only [List.any_cons, List.any_nil, Bool.or_false, Option.some.injEq]
  rw [Bool.eq_iff_iff]
  simp

theorem sameInts_ev (l : List Int) (hl : l.length ≤ 1048576) : Ev (fun k => laws_sameInts.f k l l) true := by
  have key := ev_loop (fun k (i : Int) => laws_sameInts.l0 k l l i) (fun i => 0 ≤ i ∧ i ≤ l.length) (fun i => l.length - i.toNat) (fun _ => true) (by
    rintro i ⟨h0, h1⟩
    by_cases hi : i < (l.length : Int)
    · right
      refine ⟨i + 1, ⟨by omega, by omega⟩, by omega, rfl, 0, fun j _ => ?_⟩
      simp only [laws_sameInts.l0]
      rw [if_pos hi, if_pos h0, if_pos hi, if_pos trivial, wrap_in (by omega) (by omega)]
    · left
      refine ⟨0, fun j _ => ?_⟩
      simp only [laws_sameInts.l0]
      rw [if_neg hi])
  refine ev_congr (fun k => ?_) (key 0 ⟨by omega, by omega⟩)
  unfold laws_sameInts.f
  rw [if_pos rfl]
theorem at_some (l : List Int) (hm : l.length ≤ 1048576) (i : Int) (h0 : 0 ≤ i) (h1 : i ≤ 7) : ∃ v, laws_at.f l i 2 = some v := by
  unfold laws_at.f
  rw [if_neg (by omega)]
  by_cases hz : (l.length : Int) = 0
  · rw [if_pos hz, if_neg (by omega)]
    exact ⟨_, rfl⟩
  · have e1 : Int.tmod i (l.length : Int) = i % (l.length : Int) := Int.tmod_eq_emod_of_nonneg h0
    have e2 : Int.tmod (wrap64 (i + 1)) (l.length : Int) = (i + 1) % (l.length : Int) := by rw [wrap_in (by omega) (by omega)]; exact Int.tmod_eq_emod_of_nonneg (by omega)
    have hp : 0 < (l.length : Int) := by omega
    have b1 := Int.emod_nonneg i hz
    have b2 := Int.emod_lt_of_pos i hp
    have b3 := Int.emod_nonneg (i + 1) hz
    have b4 := Int.emod_lt_of_pos (i + 1) hp
    rw [if_neg hz, e1, e2, if_pos b1, if_pos b2, if_pos b3, if_pos b4, if_neg (by omega)]
    exact ⟨_, rfl⟩
/-- Rising numbers of nodes, all below b. -/
def Good (l : List Int) (b : Int) : Prop := (∀ x ∈ l, 0 ≤ x ∧ x < b) ∧ ∀ j : Nat, j + 1 < l.length → rd l (j : Int) < rd l ((j : Int) + 1)
theorem good_snoc (l : List Int) (b : Int) (hb : 0 ≤ b) (h : Good l b) : Good (l ++ [b]) (b + 1) := by
  refine ⟨fun x hx => ?_, fun j hj => ?_⟩
  · simp only [List.mem_append, List.mem_singleton] at hx
    rcases hx with hx | rfl
    · have := h.1 x hx; omega
    · omega
  · have hget : ∀ q : Nat, q < l.length → rd (l ++ [b]) (q : Int) = rd l (q : Int) := by
      intro q hq
      unfold rd
      rw [Int.toNat_natCast, List.getD_eq_getElem?_getD, List.getD_eq_getElem?_getD, List.getElem?_append_left hq]
    simp only [List.length_append, List.length_singleton] at hj
    rw [hget j (by omega)]
    by_cases hq : j + 1 < l.length
    · have := hget (j + 1) hq
      rw [show ((j + 1 : Nat) : Int) = (j : Int) + 1 from by omega] at this
      rw [this]
      exact h.2 j hq
    · have : rd (l ++ [b]) ((j : Int) + 1) = b := by
        unfold rd
        rw [show ((j : Int) + 1).toNat = l.length from by omega, List.getD_eq_getElem?_getD, List.getElem?_append_right (Nat.le_refl _)]
        simp
      rw [this]
      exact (h.1 _ (rd_mem l j (by omega))).2
theorem good_mono (l : List Int) (b c : Int) (hbc : b ≤ c) (h : Good l b) : Good l c := ⟨fun x hx => by have := h.1 x hx; omega, h.2⟩
theorem good_ok (l : List Int) (h : Good l 7) : allSix l = true ∧ mOK (strOfNums l) = decide (0 < l.length) := by
  have hb : ∀ x ∈ l, 0 ≤ x ∧ x < 256 := fun x hx => by have := h.1 x hx; omega
  have ha : allSix l = true := by unfold allSix; rw [List.all_eq_true]; intro x hx; have := h.1 x hx; simp; omega
  refine ⟨ha, ?_⟩
  have hsz := size_strOfNums l
  have hbt : ∀ j : Nat, j < l.length → bt (strOfNums l) (j : Int) = rd l (j : Int) := by
    intro j hj
    have hm := hb _ (rd_mem l j hj)
    unfold rd at hm ⊢
    rw [Int.toNat_natCast] at hm ⊢
    exact bt_strOfNums l j hj hm.1 hm.2
  have hto : ∀ n : Nat, n ≤ l.length → okTo (strOfNums l) n = true := by
    intro n
    induction n with
    | zero => intro _; rfl
    | succ n ih =>
      intro hn
      have hx := h.1 _ (rd_mem l n (by omega))
      simp only [okTo, ih (by omega), Bool.true_and, Bool.and_eq_true, decide_eq_true_eq, Bool.or_eq_true]
      refine ⟨by rw [hbt n (by omega)]; omega, ?_⟩
      by_cases hn0 : n = 0
      · exact .inl hn0
      · right
        have hr := h.2 (n - 1) (by omega)
        rw [show (((n - 1 : Nat) : Int) + 1) = (n : Int) from by omega, show ((n - 1 : Nat) : Int) = (n : Int) - 1 from by omega] at hr
        have e := hbt (n - 1) (by omega)
        rw [show ((n - 1 : Nat) : Int) = (n : Int) - 1 from by omega] at e
        rw [e, hbt n (by omega)]
        exact hr
  unfold mOK
  rw [hsz, hto l.length (Nat.le_refl _), Bool.and_true]
theorem impl_ReadMembers_ok (l : List Int) (hb : ∀ x ∈ l, 0 ≤ x ∧ x < 256) (hl : l.length ≤ 65536) (hm : mOK (strOfNums l) = true) : Ev (fun k => impl_ReadMembers.f k (strOfNums l)) (l, 0) := by
  have hsz := size_strOfNums l
  have hr := impl_readMembers_ev (strOfNums l) (by omega)
  rw [hm, bytesOf_strOfNums l hb] at hr
  unfold impl_ReadMembers.f
  rw [isText_one]
  simp only [Option.bind_some]
  exact ev_if_pos (by simp; omega) (ev_bind hr (ev_if_pos rfl (ev_some _)))
theorem collect (m : List Int) (hm : m.length ≤ 1048576) (d : Nat) : ∀ (i : Nat) (l : List Int), i + d = 7 → Good l (i : Int) → l.length ≤ i → Ev (fun k => laws_FnMembers.l0 k m l (i : Int)) true := by
  induction d with
  | zero =>
    intro i l hi hg hl
    obtain rfl : i = 7 := by omega
    obtain ⟨ha, hok⟩ := good_ok l hg
    have hs := spec_MembersData_ev l
    have hp := impl_MembersData_ev l
    have he : mdata l = if 0 < l.length then (strOfNums l, 0) else ((⟨#[]⟩ : ByteArray), 1) := by
      unfold mdata
      rw [if_neg (by omega), ha, if_pos rfl, hok]
      by_cases h0 : 0 < l.length
      · rw [decide_eq_true h0, if_pos rfl, if_pos h0]
      · rw [decide_eq_false h0, if_neg (by simp), if_neg h0]
    rw [he] at hs hp
    refine ev_succ ?_
    simp only [laws_FnMembers.l0]
    refine ev_if_neg (by omega) (ev_bind hp (ev_bind hs (ev_if_pos rfl (ev_if_pos rfl ?_))))
    by_cases h0 : 0 < l.length
    · rw [if_pos h0]
      have hb : ∀ x ∈ l, 0 ≤ x ∧ x < 256 := fun x hx => by have := hg.1 x hx; omega
      refine ev_succ ?_
      simp only [laws_FnMembers.j2]
      refine ev_if_neg (by rw [show decide ((l.length : Int) > 0) = true from decide_eq_true (by omega)]; decide) (ev_if_pos trivial (ev_bind (impl_ReadMembers_ok l hb (by omega) (by rw [hok, decide_eq_true h0])) (ev_if_pos rfl (ev_bind (sameInts_ev l (by omega)) (ev_some _)))))
    · rw [if_neg h0]
      refine ev_succ ?_
      simp only [laws_FnMembers.j2]
      exact ev_if_neg (by rw [show decide ((l.length : Int) > 0) = false from decide_eq_false (by omega)]; decide) (ev_if_neg (by simp) (ev_some _))
  | succ d ih =>
    intro i l hi hg hl
    obtain ⟨v, hv⟩ := at_some m hm (i : Int) (by omega) (by omega)
    have hw : wrap64 ((i : Int) + 1) = ((i + 1 : Nat) : Int) := by rw [wrap_in (by omega) (by omega)]; omega
    refine ev_succ ?_
    simp only [laws_FnMembers.l0, hv, hw]
    refine ev_if_pos (by omega) ?_
    simp only [Option.bind_some]
    by_cases h1 : v = 1
    · refine ev_if_pos h1 (ev_if_pos (by omega) (ih (i + 1) (l ++ [(i : Int)]) (by omega) ?_ (by simp; omega)))
      have := good_snoc l (i : Int) (by omega) hg
      rw [show ((i : Int) + 1) = ((i + 1 : Nat) : Int) from by omega] at this
      exact this
    · exact ev_if_neg h1 (ih (i + 1) l (by omega) (good_mono l _ _ (by omega) hg) (by omega))
theorem FnMembers : laws_FnMembers.Pure := by
  intro l m _ _ _ _ _ _
  refine Ev.rounds (r := true) ?_
  unfold laws_FnMembers.f
  by_cases h1 : (l.length : Int) > 1048576
  · refine ev_if_pos h1 (ev_succ ?_)
    simp only [laws_FnMembers.j0]
    exact ev_if_pos trivial (ev_some _)
  · refine ev_if_neg h1 (ev_succ ?_)
    simp only [laws_FnMembers.j0]
    by_cases h2 : (m.length : Int) > 1048576
    · exact ev_if_pos (by simpa using h2) (ev_some _)
    · refine ev_if_neg (by simpa using h2) ?_
      exact collect m (by omega) 7 0 [] (by omega) ⟨fun x hx => by simp at hx, fun j hj => by simp at hj⟩ (by simp)
end Go.Proofs.Ytbkgjjiceldjeaa.Pure
