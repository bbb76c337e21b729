/- MapList answers as the reference's at every tree: the plain form. No conditions. -/
import Derived.Test.YtjkdmegpjdfcaaaMFnExactMapListQFnExactMapList
import Derived.Test.YtjkdmegpjdfcaaaMFnExactMapListU
import Derived.Laws.BitsAllLaws
namespace Go.Proofs.Ytjkdmegpjdfcaaa.Pure
open Go.RowKit Go.Proofs.Ytjkdmegpjdfcaaa.PFnExactMapList Go.Proofs.YtjkdmegpjdfcaaaW.PrintWords Go.Proofs.YtjkdmegpjdfcaaaW.PrintLast Go.Proofs.YtjkdmegpjdfcaaaW.PrintMore Go.Proofs.Ytjkdmegpjdfcaaa.U
set_option linter.unusedVariables false
set_option linter.unusedSimpArgs false
/-- One bit of a byte, as a digit: every byte and every place. -/
theorem digit_bit (c : Int) (h0 : 0 ≤ c) (h1 : c ≤ 255) (j : Nat) (hj : j < 8) : Go.bits .and .i64 (wrap64 (shr .u8 c (j : Int))) 1 = (48 + (Go.bits .and .u8 (shr .u8 c (IntKind.u64.wrap (j : Int))) 1)) % 256 - 48 ∧ ((48 + (Go.bits .and .u8 (shr .u8 c (IntKind.u64.wrap (j : Int))) 1)) % 256 = 48 ∨ (48 + (Go.bits .and .u8 (shr .u8 c (IntKind.u64.wrap (j : Int))) 1)) % 256 = 49) := by
  obtain ⟨b, rfl⟩ := Int.eq_ofNat_of_zero_le h0
  have key : ∀ b : Fin 256, ∀ j : Fin 8, Go.bits .and .i64 (wrap64 (shr .u8 ((b.val : Nat) : Int) ((j.val : Nat) : Int))) 1 = (48 + (Go.bits .and .u8 (shr .u8 ((b.val : Nat) : Int) (IntKind.u64.wrap ((j.val : Nat) : Int))) 1)) % 256 - 48 ∧ ((48 + (Go.bits .and .u8 (shr .u8 ((b.val : Nat) : Int) (IntKind.u64.wrap ((j.val : Nat) : Int))) 1)) % 256 = 48 ∨ (48 + (Go.bits .and .u8 (shr .u8 ((b.val : Nat) : Int) (IntKind.u64.wrap ((j.val : Nat) : Int))) 1)) % 256 = 49) := by decide +kernel
  exact key ⟨b, by omega⟩ ⟨j, hj⟩
/-- The digit of bit n of the text. -/
def dig (s : ByteArray) (n : Int) : Int := (48 + (Go.bits .and .u8 (shr .u8 (bt s (n / 8)) (IntKind.u64.wrap (7 - n % 8))) 1)) % 256
theorem dig_two (s : ByteArray) (n : Int) (h0 : 0 ≤ n) : dig s n = 48 ∨ dig s n = 49 := by
  have hb := bt_range s (n / 8)
  obtain ⟨j, hj⟩ := Int.eq_ofNat_of_zero_le (show 0 ≤ 7 - n % 8 by omega)
  have := (digit_bit (bt s (n / 8)) hb.1 hb.2 j (by omega)).2
  unfold dig
  rw [hj]
  exact this
theorem bit_dig (s : ByteArray) (hs : s.size = 32) (n : Int) (h0 : 0 ≤ n) (h1 : n < 256) : impl_bit.f s n = some (dig s n - 48) := by
  unfold impl_bit.f
  have e1 : wrap64 (Int.tdiv n 8) = n / 8 := by rw [Int.tdiv_eq_ediv_of_nonneg h0, wrap_in (by omega) (by omega)]
  have e2 : wrap64 (7 - Int.tmod n 8) = 7 - n % 8 := by rw [Int.tmod_eq_emod_of_nonneg h0, wrap_in (by omega) (by omega)]
  rw [e1, e2, if_pos (by omega), if_pos (by omega), if_pos (by omega)]
  have hb := bt_range s (n / 8)
  obtain ⟨j, hj⟩ := Int.eq_ofNat_of_zero_le (show 0 ≤ 7 - n % 8 by omega)
  have := (digit_bit (bt s (n / 8)) hb.1 hb.2 j (by omega)).1
  unfold dig
  rw [hj, this]
/-- The digits of a hash. -/
def D (s : ByteArray) : List Int := (List.range 256).map fun n : Nat => dig s (n : Int)
theorem D_len (s : ByteArray) : (D s).length = 256 := by simp [D]
theorem D_get (s : ByteArray) (n : Nat) (h : n < (D s).length) : (D s)[n] = dig s (n : Int) := by simp [D]
theorem D_range (s : ByteArray) : ∀ x ∈ D s, 0 ≤ x ∧ x < 256 := by
  intro x hx
  simp only [D, List.mem_map] at hx
  obtain ⟨n, _, rfl⟩ := hx
  unfold dig
  omega
theorem D_next (s : ByteArray) (n : Nat) (h : n < 256) : (D s).take n ++ [dig s (n : Int)] = (D s).take (n + 1) := by
  have hl : n < (D s).length := by rw [D_len]; exact h
  rw [List.take_succ_eq_append_getElem hl, D_get]
theorem spec_bit (k : Nat) (s : ByteArray) (hn : s.size = 32) (x : List Int) (i j : Int) (h0 : 0 ≤ i ∧ i < 32) (h1 : 0 ≤ j ∧ j < 8) (hx : x.length = (8 * i + (7 - j)).toNat) :
    spec_l01Bits.l1 (k + 1) s x i j = spec_l01Bits.l1 k s (x ++ [dig s (8 * i + (7 - j))]) i (j - 1) := by
  simp only [spec_l01Bits.l1]
  have e : IntKind.u64.wrap j = j := by rw [IntKind.wrap_u64]; omega
  rw [if_pos (by omega), if_pos h0.1, if_pos (by omega), if_pos (by rw [e]; omega), if_pos (by omega), wrap_in (x := j - 1) (by omega) (by omega)]
  unfold dig
  rw [show (8 * i + (7 - j)) / 8 = i from by omega, show 7 - (8 * i + (7 - j)) % 8 = j from by omega]
theorem bits_from (s : ByteArray) (hn : s.size = 32) (d : Nat) : ∀ (n : Nat), n + d = 256 →
    (0 < d → Ev (fun k => spec_l01Bits.l1 k s ((D s).take n) ((n : Int) / 8) (7 - (n : Int) % 8)) (strOfNums (D s))) ∧ (n % 8 = 0 → Ev (fun k => spec_l01Bits.l0 k s ((D s).take n) ((n : Int) / 8)) (strOfNums (D s))) := by
  induction d with
  | zero =>
    intro n hi
    refine ⟨fun h => absurd h (by omega), fun _ => ev_succ (ev_of_eq fun k => ?_)⟩
    simp only [spec_l01Bits.l0]
    rw [if_neg (by omega), List.take_of_length_le (by rw [D_len]; omega)]
  | succ d ih =>
    intro n hi
    obtain ⟨h2, h3⟩ := ih (n + 1) (by omega)
    have hx : ((D s).take n).length = n := by rw [List.length_take, D_len]; omega
    have hL : Ev (fun k => spec_l01Bits.l1 k s ((D s).take n) ((n : Int) / 8) (7 - (n : Int) % 8)) (strOfNums (D s)) := by
      refine ev_succ (ev_congr (fun k => spec_bit k s hn _ ((n : Int) / 8) (7 - (n : Int) % 8) ⟨by omega, by omega⟩ ⟨by omega, by omega⟩ (by rw [hx]; omega)) ?_)
      rw [show 8 * ((n : Int) / 8) + (7 - (7 - (n : Int) % 8)) = (n : Int) from by omega, D_next s n (by omega)]
      by_cases h7 : n % 8 = 7
      · rw [show 7 - (n : Int) % 8 - 1 = -1 from by omega]
        refine ev_succ (ev_congr (fun k => ?_) (h3 (by omega)))
        simp only [spec_l01Bits.l1]
        rw [if_neg (by omega), wrap_in (by omega) (by omega), show (n : Int) / 8 + 1 = ((n + 1 : Nat) : Int) / 8 from by omega]
      · have := h2 (by omega)
        rw [show ((n + 1 : Nat) : Int) / 8 = (n : Int) / 8 from by omega, show 7 - ((n + 1 : Nat) : Int) % 8 = 7 - (n : Int) % 8 - 1 from by omega] at this
        exact this
    refine ⟨fun _ => hL, fun h8 => ?_⟩
    refine ev_succ (ev_congr (fun k => ?_) hL)
    simp only [spec_l01Bits.l0]
    rw [if_pos (by omega), show 7 - (n : Int) % 8 = 7 from by omega]
theorem bits_ev (s : ByteArray) (hn : s.size = 32) : Ev (fun k => spec_l01Bits.f k s) (strOfNums (D s)) := by
  have := (bits_from s hn 256 0 (by omega)).2 (by omega)
  exact this
theorem take_iff (a b : ByteArray) (n : Nat) (hn : n ≤ 256) : (D a).take n = (D b).take n ↔ ∀ j : Nat, j < n → dig a (j : Int) = dig b (j : Int) := by
  constructor
  · intro h j hj
    have h2 := congrArg (fun l => l[j]?) h
    simp only [List.getElem?_take, if_pos hj] at h2
    rw [List.getElem?_eq_getElem (by rw [D_len]; omega), List.getElem?_eq_getElem (by rw [D_len]; omega), D_get, D_get] at h2
    exact Option.some.inj h2
  · intro h
    apply List.ext_getElem?
    intro j
    rw [List.getElem?_take, List.getElem?_take]
    split
    · rename_i hj
      rw [List.getElem?_eq_getElem (by rw [D_len]; omega), List.getElem?_eq_getElem (by rw [D_len]; omega), D_get, D_get, h j hj]
    · rfl
theorem ahead_from (a b : ByteArray) (ha : a.size = 32) (hb : b.size = 32) (at_ : Nat) (hat : at_ ≤ 256) (d : Nat) : ∀ i : Nat, i + d = at_ → ∃ r : Bool, Ev (fun k => impl_sameAhead.l0 k a b (at_ : Int) (i : Int)) r ∧ (r = true ↔ ∀ j : Nat, i ≤ j → j < at_ → dig a (j : Int) = dig b (j : Int)) := by
  induction d with
  | zero =>
    intro i hi
    refine ⟨true, ev_succ ?_, ⟨fun _ j h1 h2 => by omega, fun _ => rfl⟩⟩
    simp only [impl_sameAhead.l0]
    exact ev_if_neg (by omega) (ev_some _)
  | succ d ih =>
    intro i hi
    have w2 : wrap64 ((i : Int) + 1) = ((i + 1 : Nat) : Int) := (wrap_in (by omega) (by omega)).trans (by omega)
    by_cases he : dig a (i : Int) = dig b (i : Int)
    · obtain ⟨r, h, hr⟩ := ih (i + 1) (by omega)
      refine ⟨r, ev_succ ?_, hr.trans ⟨fun h j h1 h2 => ?_, fun h j h1 h2 => h j (by omega) h2⟩⟩
      · simp only [impl_sameAhead.l0, w2, bit_dig a ha (i : Int) (by omega) (by omega), bit_dig b hb (i : Int) (by omega) (by omega), Option.bind_some]
        exact ev_if_pos (by omega) (ev_if_pos (by rw [he]) h)
      · by_cases hj : j = i
        · subst hj; exact he
        · exact h j (by omega) h2
    · refine ⟨false, ev_succ ?_, ⟨fun h => (by cases h), fun h => absurd (h i (Nat.le_refl _) (by omega)) he⟩⟩
      simp only [impl_sameAhead.l0, w2, bit_dig a ha (i : Int) (by omega) (by omega), bit_dig b hb (i : Int) (by omega) (by omega), Option.bind_some]
      exact ev_if_pos (by omega) (ev_if_neg (by omega) (ev_some _))
theorem ahead_ev (a b : ByteArray) (ha : a.size = 32) (hb : b.size = 32) (at_ : Nat) (hat : at_ ≤ 256) : ∃ r : Bool, Ev (fun k => impl_sameAhead.f k a b (at_ : Int)) r ∧ (r = true ↔ (D a).take at_ = (D b).take at_) := by
  obtain ⟨r, h, hr⟩ := ahead_from a b ha hb at_ hat at_ 0 (by omega)
  exact ⟨r, h, hr.trans (Iff.trans ⟨fun h j h2 => h j (Nat.zero_le _) h2, fun h j _ h2 => h j h2⟩ (take_iff a b at_ hat).symm)⟩

/-- A test over a row: every element answers, so the row does. -/
theorem any_ev (P : Nat → S51 → Option Bool) (Q : S51 → Prop) : ∀ l : List S51, (∀ x ∈ l, ∃ b : Bool, Ev (fun k => P k x) b ∧ (b = true ↔ Q x)) → ∃ b : Bool, Ev (fun k => impl_mapPairs.any (P k) l) b ∧ (b = true ↔ ∃ x ∈ l, Q x)
  | [], _ => ⟨false, ev_some _, by simp⟩
  | x :: l, h => by
    obtain ⟨b, hb, hq⟩ := h x (List.mem_cons_self ..)
    obtain ⟨c, hc, hr⟩ := any_ev P Q l (fun y hy => h y (List.mem_cons_of_mem _ hy))
    cases b with
    | true =>
      refine ⟨true, ?_, ⟨fun _ => ⟨x, List.mem_cons_self .., hq.1 rfl⟩, fun _ => rfl⟩⟩
      simp only [impl_mapPairs.any]
      exact ev_bind hb (ev_if_pos rfl (ev_some _))
    | false =>
      refine ⟨c, ?_, hr.trans ⟨fun ⟨y, hy, hQ⟩ => ⟨y, List.mem_cons_of_mem _ hy, hQ⟩, fun ⟨y, hy, hQ⟩ => ?_⟩⟩
      · simp only [impl_mapPairs.any]
        exact ev_bind hb (ev_if_neg (by decide) hc)
      · rcases List.mem_cons.1 hy with rfl | hy
        · exact absurd (hq.2 hQ) (by decide)
        · exact ⟨y, hy, hQ⟩
theorem within_dec (a lo hi : Int) : impl_within.f a lo hi = some (decide (lo ≤ a ∧ a ≤ hi)) := by
  unfold impl_within.f
  split
  · rename_i h
    congr 1
    apply decide_eq_decide.mpr
    omega
  · rename_i h
    rw [decide_eq_false (by omega)]
theorem in_dec (a lo hi : Int) : spec_l01In.f a lo hi = some (decide (lo ≤ a ∧ a ≤ hi)) := by
  unfold spec_l01In.f
  split
  · rename_i h
    congr 1
    apply decide_eq_decide.mpr
    omega
  · rename_i h
    rw [decide_eq_false (by omega)]
abbrev keyOK (a : ByteArray) : Prop := 1 ≤ (a.size : Int) ∧ (a.size : Int) ≤ 24
theorem key_dec (a : ByteArray) : spec_l02Key.f a = some (decide (keyOK a)) := by
  unfold spec_l02Key.f
  split
  · congr 1
    apply decide_eq_decide.mpr
    omega
  · rw [decide_eq_false (by omega)]
def leafOK (a b : ByteArray) (c : Int) (l : List S29) : Prop := c = 256 ∧ keyOK a ∧ (b.size : Int) ≤ 60 ∧ l = []
def forkOK (a b : ByteArray) (c : Int) (l : List S29) : Prop := a.toList = [] ∧ b.toList = [] ∧ (0 ≤ c ∧ c ≤ 255) ∧ l.length = 2
theorem len0 (l : List S29) : ((l.length : Int) == 0) = decide (l = []) := by
  cases l with
  | nil => simp
  | cons x l => simp; omega
theorem leaf_dec (a b : ByteArray) (c : Int) (l : List S29) : ∃ r : Bool, impl_Branch_isLeaf.f a b c l = some r ∧ (r = true ↔ leafOK a b c l) := by
  have hk : impl_isKey.f a = some (decide (keyOK a)) := by unfold impl_isKey.f; rw [within_dec]; rfl
  unfold impl_Branch_isLeaf.f leafOK
  rw [hk]
  simp only [Option.bind_some, impl_isValue.f, len0]
  by_cases h1 : c = 256
  · by_cases h2 : keyOK a
    · by_cases h3 : (b.size : Int) ≤ 60
      · exact ⟨_, by rw [if_pos h1, if_pos (by simpa using h2), if_pos (by simpa using h3)], ⟨fun h => ⟨h1, h2, h3, of_decide_eq_true h⟩, fun h => decide_eq_true h.2.2.2⟩⟩
      · exact ⟨_, by rw [if_pos h1, if_pos (by simpa using h2), if_neg (by simpa using h3)], by simp [h3]⟩
    · exact ⟨_, by rw [if_pos h1, if_neg (by simpa using h2)], by simp [h2]⟩
  · exact ⟨_, by rw [if_neg h1], by simp [h1]⟩
theorem fork_dec (a b : ByteArray) (c : Int) (l : List S29) : ∃ r : Bool, impl_Branch_isFork.f a b c l = some r ∧ (r = true ↔ forkOK a b c l) := by
  unfold impl_Branch_isFork.f forkOK
  rw [within_dec]
  simp only [Option.bind_some]
  by_cases h1 : a.toList = []
  · by_cases h2 : b.toList = []
    · by_cases h3 : 0 ≤ c ∧ c ≤ 255
      · exact ⟨_, by rw [if_pos h1, if_pos h2, if_pos (by simpa using h3)], by simp [h1, h2, h3]; omega⟩
      · exact ⟨_, by rw [if_pos h1, if_pos h2, if_neg (by simpa using h3)], by simp; intro _ _ h4 h5; exact absurd ⟨h4, h5⟩ h3⟩
    · exact ⟨_, by rw [if_pos h1, if_neg h2], by simp [h2]⟩
  · exact ⟨_, by rw [if_neg h1], by simp [h1]⟩
abbrev sha (s : ByteArray) : ByteArray := Go.Proofs.Ytjkdmegpjdfcaaa.Hash.sha s
theorem sha32 (s : ByteArray) : (sha s).size = 32 := Go.Proofs.Ytjkdmegpjdfcaaa.SHash.sha_size s
theorem ihash (a : ByteArray) (h : keyOK a) : impl_hash.f a = some (sha a) := by
  unfold impl_hash.f
  unfold keyOK at h
  rw [if_pos (by omega)]
theorem shash (a : ByteArray) (h : keyOK a) : spec_l07Hash.f a = some (sha a) := by
  unfold spec_l07Hash.f
  unfold keyOK at h
  rw [if_pos (by omega)]
theorem extract_nums (l : List Int) (n : Nat) : (strOfNums l).extract 0 n = strOfNums (l.take n) := by
  apply ByteArray.ext
  show ((strOfNums l).extract 0 n).data = (((l.take n).map fun n => UInt8.ofNat n.toNat).toArray)
  rw [ByteArray.data_extract]
  show ((l.map fun n => UInt8.ofNat n.toNat).toArray).extract 0 n = _
  simp
theorem toList_iff (a b : List Int) (ha : ∀ x ∈ a, 0 ≤ x ∧ x < 256) (hb : ∀ x ∈ b, 0 ≤ x ∧ x < 256) : (strOfNums a).toList = (strOfNums b).toList ↔ a = b := by
  constructor
  · intro he
    rw [ByteArray.toList_eq, ByteArray.toList_eq] at he
    have h1 : strOfNums a = strOfNums b := ByteArray.ext (Array.toList_inj.1 he)
    have h2 := congrArg bytesOf h1
    rwa [bytesOf_strOfNums a ha, bytesOf_strOfNums b hb] at h2
  · intro h; rw [h]

theorem go_leaf (n : Nat) (x : S29) (h : x.f3 = []) : spec_l07Count.go n x = x := by
  cases n with
  | zero => rfl
  | succ n => unfold spec_l07Count.go; rw [if_pos (by rw [h]; rfl)]
theorem go_next (n : Nat) (x : S29) (h : x.f3.length ≠ 0) : spec_l07Count.go (n + 1) x = spec_l07Count.go n (rd_T29 x.f3 0) := by
  conv => lhs; unfold spec_l07Count.go
  rw [if_neg h]
theorem go_more (m : Nat) : ∀ (n : Nat) (x : S29), (spec_l07Count.go m x).f3 = [] → m ≤ n → spec_l07Count.go n x = spec_l07Count.go m x := by
  induction m with
  | zero =>
    intro n x h _
    exact go_leaf n x h
  | succ m ih =>
    intro n x h hn
    obtain ⟨n, rfl⟩ : ∃ p, n = p + 1 := ⟨n - 1, by omega⟩
    by_cases hx : x.f3.length = 0
    · have hx' : x.f3 = [] := List.eq_nil_of_length_eq_zero hx
      rw [go_leaf _ x hx', go_leaf _ x hx']
    · rw [go_next _ x hx] at h ⊢
      rw [go_next _ x hx]
      exact ih n _ h (by omega)
theorem count_low (a b : ByteArray) (c : Int) (l : List S29) (fr : Int) (p : ByteArray) (room : Int) (h : room < 1) : Ev (fun k => spec_l07Count.f k a b c l fr p room) (-1) := by
  refine ev_succ ?_
  simp only [spec_l07Count.f]
  exact ev_if_pos h (ev_some _)
theorem count_leaf (a b : ByteArray) (c : Int) (P : List Int) (hP : ∀ x ∈ P, 0 ≤ x ∧ x < 256) (hl : P.length ≤ 256) (fr room : Int) (h : 1 ≤ room) :
    ∃ cn : Int, Ev (fun k => spec_l07Count.f k a b c [] fr (strOfNums P) room) cn ∧ (cn = -1 ∨ cn = 1) ∧ (cn = 1 ↔ leafOK a b c [] ∧ (D (sha a)).take P.length = P) := by
  have hlf : spec_l07Leaf.f a b c [] = some true := rfl
  have hr : ¬ room < 1 := by omega
  have no : ∀ {Q : Prop}, ¬ Q → ((-1 : Int) = 1 ↔ Q) := fun h => ⟨fun h2 => absurd h2 (by decide), fun h2 => absurd h2 h⟩
  have start : ∀ {cn : Int}, Ev (fun k => if (decide (keyOK a)) = true then (if (b.size : Int) > 60 then (some (-1)) else (if c = 256 then ((spec_l07Hash.f a).bind fun t112 => ((spec_l01Bits.f k t112).bind fun t113 => (if 0 ≤ ((strOfNums P).size : Int) then (if ((strOfNums P).size : Int) ≤ (t113.size : Int) then (if (t113.extract 0 (((strOfNums P).size : Int) : Int).toNat).toList = (strOfNums P).toList then (some 1) else (some (-1))) else (none)) else (none)))) else (some (-1)))) else (some (-1))) cn → Ev (fun k => spec_l07Count.f k a b c [] fr (strOfNums P) room) cn := by
    intro cn hh
    refine ev_succ ?_
    simp only [spec_l07Count.f, hlf, key_dec, Option.bind_some]
    exact ev_if_neg hr (ev_if_pos (by simp) hh)
  by_cases hk : keyOK a
  · by_cases hb : (b.size : Int) > 60
    · exact ⟨-1, start (ev_if_pos (by simpa using hk) (ev_if_pos hb (ev_some _))), .inl rfl, no (fun hq => by have := hq.1.2.2.1; omega)⟩
    · by_cases hc : c = 256
      · rw [size_strOfNums] at start
        have fin : ∀ {r : Int}, Ev (fun _ : Nat => if ((strOfNums (D (sha a))).extract 0 ((P.length : Int)).toNat).toList = (strOfNums P).toList then (some (1 : Int)) else (some (-1))) r → Ev (fun k => spec_l07Count.f k a b c [] fr (strOfNums P) room) r := by
          intro r hh
          refine start (ev_if_pos (by simpa using hk) (ev_if_neg hb (ev_if_pos hc ?_)))
          rw [shash a hk]
          simp only [Option.bind_some]
          refine ev_bind (bits_ev (sha a) (sha32 a)) ?_
          exact ev_if_pos (by omega) (ev_if_pos (by rw [size_strOfNums, D_len]; omega) hh)
        have e : ((strOfNums (D (sha a))).extract 0 ((P.length : Int)).toNat).toList = (strOfNums P).toList ↔ (D (sha a)).take P.length = P := by
          rw [Int.toNat_natCast, extract_nums]
          exact toList_iff _ _ (fun x hx => D_range _ x (List.mem_of_mem_take hx)) hP
        by_cases hm : (D (sha a)).take P.length = P
        · exact ⟨1, fin (ev_if_pos (e.2 hm) (ev_some _)), .inr rfl, ⟨fun _ => ⟨⟨hc, hk, by omega, rfl⟩, hm⟩, fun _ => rfl⟩⟩
        · exact ⟨-1, fin (ev_if_neg (fun h => hm (e.1 h)) (ev_some _)), .inl rfl, no (fun hq => hm hq.2)⟩
      · exact ⟨-1, start (ev_if_pos (by simpa using hk) (ev_if_neg hb (ev_if_neg hc (ev_some _)))), .inl rfl, no (fun hq => hc hq.1.1)⟩
  · exact ⟨-1, start (ev_if_neg (by simpa using hk) (ev_some _)), .inl rfl, no (fun hq => hk hq.1.2.1)⟩
theorem j0_true (x2 : ByteArray) (x3 : Int) (a b : ByteArray) (c : Int) (l : List S29) : Ev (fun k => spec_l07Count.j0 k x2 x3 true a b c l) (-1) := by
  refine ev_succ ?_
  simp only [spec_l07Count.j0]
  exact ev_if_pos (by simp) (ev_some _)
theorem count_nofork (a b : ByteArray) (c : Int) (l : List S29) (fr : Int) (p : ByteArray) (room : Int) (h : 1 ≤ room) (hl : l ≠ []) (hn : ¬ (a.toList = [] ∧ b.toList = [] ∧ (fr ≤ c ∧ c ≤ 255) ∧ l.length = 2)) : Ev (fun k => spec_l07Count.f k a b c l fr p room) (-1) := by
  have hlf : spec_l07Leaf.f a b c l = some false := by unfold spec_l07Leaf.f; rw [len0, decide_eq_false hl]
  refine ev_succ ?_
  simp only [spec_l07Count.f, hlf, in_dec, Option.bind_some]
  refine ev_if_neg (by omega) (ev_if_neg (by simp) ?_)
  by_cases h1 : (l.length : Int) = 2
  · refine ev_if_pos h1 ?_
    by_cases h2 : a.toList = []
    · refine ev_if_pos h2 ?_
      by_cases h3 : b.toList = []
      · refine ev_if_pos h3 ?_
        rw [decide_eq_false (fun h4 => hn ⟨h2, h3, h4, by omega⟩)]
        exact j0_true _ _ _ _ _ _
      · exact ev_if_neg h3 (j0_true _ _ _ _ _ _)
    · exact ev_if_neg h2 (j0_true _ _ _ _ _ _)
  · exact ev_if_neg h1 (j0_true _ _ _ _ _ _)
theorem count_j0 (a b : ByteArray) (c : Int) (x0 x1 : S29) (fr : Int) (p : ByteArray) (room : Int) (h : 1 ≤ room) (h1 : a.toList = []) (h2 : b.toList = []) (h3 : fr ≤ c ∧ c ≤ 255) {r : Int} (hr : Ev (fun k => spec_l07Count.j0 k p room false a b c [x0, x1]) r) : Ev (fun k => spec_l07Count.f k a b c [x0, x1] fr p room) r := by
  have hlf : spec_l07Leaf.f a b c [x0, x1] = some false := rfl
  refine ev_succ ?_
  simp only [spec_l07Count.f, hlf, in_dec, Option.bind_some]
  refine ev_if_neg (by omega) (ev_if_neg (by simp) (ev_if_pos rfl (ev_if_pos h1 (ev_if_pos h2 ?_))))
  rw [decide_eq_true h3]
  exact hr
theorem lm_go (x : S29) : spec_l07Count.lm x.f0 x.f1 x.f2 x.f3 = some ((spec_l07Count.go 256 x).f0, (spec_l07Count.go 256 x).f1, (spec_l07Count.go 256 x).f2, (spec_l07Count.go 256 x).f3) := by
  unfold spec_l07Count.lm
  rw [spec_l07Count.eta]
theorem j1_true (x2 : ByteArray) (x3 : Int) (a b : ByteArray) (c : Int) (l : List S29) (f0 f1 : ByteArray) (f2 : Int) (f3 : List S29) : Ev (fun k => spec_l07Count.j1 k x2 x3 true a b c l f0 f1 f2 f3) (-1) := by
  refine ev_succ ?_
  simp only [spec_l07Count.j1]
  exact ev_if_pos (by simp) (ev_some _)
theorem j0_bad (p : ByteArray) (room : Int) (a b : ByteArray) (c : Int) (x0 x1 : S29) (h : ¬ ((spec_l07Count.go 256 x0).f3 = [] ∧ keyOK (spec_l07Count.go 256 x0).f0)) : Ev (fun k => spec_l07Count.j0 k p room false a b c [x0, x1]) (-1) := by
  refine ev_succ ?_
  simp only [spec_l07Count.j0]
  refine ev_if_neg (by simp) (ev_if_pos (by simp) ?_)
  rw [show rd_T29 [x0, x1] 0 = x0 from rfl, lm_go]
  simp only [Option.bind_some, spec_l07Leaf.f, len0, key_dec]
  by_cases hf : (spec_l07Count.go 256 x0).f3 = []
  · rw [decide_eq_true hf]
    refine ev_if_pos rfl ?_
    rw [decide_eq_false (fun hk => h ⟨hf, hk⟩)]
    exact j1_true _ _ _ _ _ _ _ _ _ _
  · rw [decide_eq_false hf]
    exact ev_if_neg (by simp) (j1_true _ _ _ _ _ _ _ _ _ _)
theorem j0_good (p : ByteArray) (room : Int) (a b : ByteArray) (c : Int) (x0 x1 : S29) (hf : (spec_l07Count.go 256 x0).f3 = []) (hk : keyOK (spec_l07Count.go 256 x0).f0) {r : Int} (hr : Ev (fun k => spec_l07Count.j1 k p room false a b c [x0, x1] (spec_l07Count.go 256 x0).f0 (spec_l07Count.go 256 x0).f1 (spec_l07Count.go 256 x0).f2 (spec_l07Count.go 256 x0).f3) r) : Ev (fun k => spec_l07Count.j0 k p room false a b c [x0, x1]) r := by
  refine ev_succ ?_
  simp only [spec_l07Count.j0]
  refine ev_if_neg (by simp) (ev_if_pos (by simp) ?_)
  rw [show rd_T29 [x0, x1] 0 = x0 from rfl, lm_go]
  simp only [Option.bind_some, spec_l07Leaf.f, len0, key_dec]
  rw [decide_eq_true hf]
  refine ev_if_pos rfl ?_
  rw [decide_eq_true hk]
  exact hr
theorem j2_true (x3 : Int) (x11 : ByteArray) (a b : ByteArray) (c : Int) (l : List S29) : Ev (fun k => spec_l07Count.j2 k x3 x11 true a b c l) (-1) := by
  refine ev_succ ?_
  simp only [spec_l07Count.j2]
  exact ev_if_pos (by simp) (ev_some _)
theorem j1_run (P : List Int) (hP : ∀ x ∈ P, 0 ≤ x ∧ x < 256) (room : Int) (a b : ByteArray) (n : Nat) (hn : n ≤ 255) (hl : P.length ≤ n) (l : List S29) (f0 f1 : ByteArray) (f2 : Int) (f3 : List S29) (hk : keyOK f0) {r : Int}
    (hr : Ev (fun k => spec_l07Count.j2 k room (strOfNums ((D (sha f0)).take n)) (!decide (((D (sha f0)).take n).take P.length = P)) a b (n : Int) l) r) : Ev (fun k => spec_l07Count.j1 k (strOfNums P) room false a b (n : Int) l f0 f1 f2 f3) r := by
  have hz : ((D (sha f0)).take n).length = n := by rw [List.length_take, D_len]; omega
  refine ev_succ ?_
  simp only [spec_l07Count.j1]
  rw [shash f0 hk]
  simp only [Option.bind_some]
  refine ev_if_neg (by simp) (ev_bind (bits_ev (sha f0) (sha32 f0)) ?_)
  rw [Int.toNat_natCast, extract_nums, size_strOfNums, size_strOfNums, size_strOfNums, hz, D_len, Int.toNat_natCast, extract_nums]
  refine ev_if_pos (by omega) (ev_if_pos (by omega) (ev_if_neg (by omega) (ev_if_pos (by omega) (ev_if_pos (by omega) ?_))))
  have e : ((strOfNums (((D (sha f0)).take n).take P.length)).toList != (strOfNums P).toList) = !decide (((D (sha f0)).take n).take P.length = P) := by
    have h2 := toList_iff (((D (sha f0)).take n).take P.length) P (fun x hx => D_range _ x (List.mem_of_mem_take (List.mem_of_mem_take hx))) hP
    by_cases h3 : ((D (sha f0)).take n).take P.length = P
    · rw [decide_eq_true h3, h3]; simp
    · rw [decide_eq_false h3]
      exact bne_iff_ne.mpr (fun h4 => h3 (h2.1 h4))
  rw [e]
  exact hr

theorem l0_run (room : Int) (n : Nat) (hn : n ≤ 255) (bits : List Int) (hb : bits.length = n) (a b : ByteArray) (x0 x1 : S29) (hr0 : 1 ≤ room) (hr1 : room ≤ 40) (cn0 : Int) (h0 : Ev (fun k => spec_l07Count.f k x0.f0 x0.f1 x0.f2 x0.f3 ((n : Int) + 1) (strOfNums (bits ++ [48])) room) cn0) :
    (cn0 < 0 → Ev (fun k => spec_l07Count.l0 k room (strOfNums bits) 0 0 a b (n : Int) [x0, x1]) (-1)) ∧
    (∀ cn1 : Int, 0 < cn0 → cn0 ≤ 40 → Ev (fun k => spec_l07Count.f k x1.f0 x1.f1 x1.f2 x1.f3 ((n : Int) + 1) (strOfNums (bits ++ [49])) (room - cn0)) cn1 → (cn1 < 0 → Ev (fun k => spec_l07Count.l0 k room (strOfNums bits) 0 0 a b (n : Int) [x0, x1]) (-1)) ∧ (0 < cn1 → cn1 ≤ 40 → Ev (fun k => spec_l07Count.l0 k room (strOfNums bits) 0 0 a b (n : Int) [x0, x1]) (cn0 + cn1))) := by
  have e0 : wrap64 ((n : Int) + 1) = (n : Int) + 1 := wrap_in (by omega) (by omega)
  have s0 : (strOfNums bits).size + (strOfNums [(48 + 0 % 256) % 256]).size ≤ 9223372036854775807 := by rw [size_strOfNums, size_strOfNums]; simp; omega
  have s1 : (strOfNums bits).size + (strOfNums [(48 + 1 % 256) % 256]).size ≤ 9223372036854775807 := by rw [size_strOfNums, size_strOfNums]; simp; omega
  have step0 : ∀ {r : Int}, Ev (fun k => if cn0 < 0 then (some (-1)) else (spec_l07Count.l0 k room (strOfNums bits) (wrap64 (0 + cn0)) (wrap64 (0 + 1)) a b (n : Int) [x0, x1])) r → Ev (fun k => spec_l07Count.l0 k room (strOfNums bits) 0 0 a b (n : Int) [x0, x1]) r := by
    intro r hh
    refine ev_succ ?_
    simp only [spec_l07Count.l0, e0]
    refine ev_if_pos (by omega) (ev_if_pos (by omega) (ev_if_pos (by simp) ?_))
    simp only [Option.bind_some]
    refine ev_if_pos s0 ?_
    have h1 : Ev (fun k => spec_l07Count.f k (rd_T29 [x0, x1] 0).f0 (rd_T29 [x0, x1] 0).f1 (rd_T29 [x0, x1] 0).f2 (rd_T29 [x0, x1] 0).f3 ((n : Int) + 1) (strOfNums bits ++ strOfNums [(48 + 0 % 256) % 256]) (wrap64 (room - 0))) cn0 := by
      rw [show rd_T29 [x0, x1] 0 = x0 from rfl, ← strOfNums_append, wrap_in (by omega) (by omega), Int.sub_zero]
      exact h0
    exact ev_bind h1 hh
  refine ⟨fun hn0 => step0 (ev_if_pos hn0 (ev_some _)), fun cn1 hp h40 hc1 => ?_⟩
  have step1 : ∀ {r : Int}, Ev (fun k => if cn1 < 0 then (some (-1)) else (spec_l07Count.l0 k room (strOfNums bits) (wrap64 (cn0 + cn1)) (wrap64 (1 + 1)) a b (n : Int) [x0, x1])) r → Ev (fun k => spec_l07Count.l0 k room (strOfNums bits) 0 0 a b (n : Int) [x0, x1]) r := by
    intro r hh
    refine step0 (ev_if_neg (by omega) ?_)
    rw [wrap_in (x := 0 + cn0) (by omega) (by omega), Int.zero_add, show wrap64 (0 + 1) = 1 from (wrap_in (by omega) (by omega)).trans (by omega)]
    refine ev_succ ?_
    simp only [spec_l07Count.l0, e0]
    refine ev_if_pos (by omega) (ev_if_pos (by omega) (ev_if_pos (by simp) ?_))
    simp only [Option.bind_some]
    refine ev_if_pos s1 ?_
    have h1 : Ev (fun k => spec_l07Count.f k (rd_T29 [x0, x1] 1).f0 (rd_T29 [x0, x1] 1).f1 (rd_T29 [x0, x1] 1).f2 (rd_T29 [x0, x1] 1).f3 ((n : Int) + 1) (strOfNums bits ++ strOfNums [(48 + 1 % 256) % 256]) (wrap64 (room - cn0))) cn1 := by
      rw [show rd_T29 [x0, x1] 1 = x1 from rfl, ← strOfNums_append, wrap_in (by omega) (by omega)]
      exact hc1
    exact ev_bind h1 hh
  refine ⟨fun hn1 => step1 (ev_if_pos hn1 (ev_some _)), fun hp1 h41 => step1 (ev_if_neg (by omega) ?_)⟩
  rw [wrap_in (x := cn0 + cn1) (by omega) (by omega), show wrap64 (1 + 1) = 2 from (wrap_in (by omega) (by omega)).trans (by omega)]
  refine ev_succ ?_
  simp only [spec_l07Count.l0]
  exact ev_if_neg (by omega) (ev_some _)
/-- The fork, by the reference. -/
theorem count_fork (P : List Int) (hP : ∀ x ∈ P, 0 ≤ x ∧ x < 256) (room : Int) (a b : ByteArray) (n : Nat) (hn : n ≤ 255) (hl : P.length ≤ n) (x0 x1 : S29) (h1 : a.toList = []) (h2 : b.toList = []) (hr0 : 0 ≤ room) (hr1 : room ≤ 40) (cn0 : Int)
    (h0 : Ev (fun k => spec_l07Count.f k x0.f0 x0.f1 x0.f2 x0.f3 ((n : Int) + 1) (strOfNums ((D (sha (spec_l07Count.go 256 x0).f0)).take n ++ [48])) room) cn0) (hs0 : cn0 = -1 ∨ 0 < cn0) (hs1 : cn0 ≤ 40) :
    (¬ (1 ≤ room ∧ (spec_l07Count.go 256 x0).f3 = [] ∧ keyOK (spec_l07Count.go 256 x0).f0 ∧ ((D (sha (spec_l07Count.go 256 x0).f0)).take n).take P.length = P ∧ 0 < cn0) → Ev (fun k => spec_l07Count.f k a b (n : Int) [x0, x1] (P.length : Int) (strOfNums P) room) (-1)) ∧
    (∀ cn1 : Int, Ev (fun k => spec_l07Count.f k x1.f0 x1.f1 x1.f2 x1.f3 ((n : Int) + 1) (strOfNums ((D (sha (spec_l07Count.go 256 x0).f0)).take n ++ [49])) (room - cn0)) cn1 → (cn1 = -1 ∨ 0 < cn1) → cn1 ≤ 40 →
      (¬ 0 < cn1 → Ev (fun k => spec_l07Count.f k a b (n : Int) [x0, x1] (P.length : Int) (strOfNums P) room) (-1)) ∧
      (1 ≤ room → (spec_l07Count.go 256 x0).f3 = [] → keyOK (spec_l07Count.go 256 x0).f0 → ((D (sha (spec_l07Count.go 256 x0).f0)).take n).take P.length = P → 0 < cn0 → 0 < cn1 → Ev (fun k => spec_l07Count.f k a b (n : Int) [x0, x1] (P.length : Int) (strOfNums P) room) (cn0 + cn1))) := by
  obtain ⟨bits, hbits⟩ : ∃ bits, bits = (D (sha (spec_l07Count.go 256 x0).f0)).take n := ⟨_, rfl⟩
  have hz : bits.length = n := by rw [hbits, List.length_take, D_len]; omega
  have neg : ¬ (1 ≤ room ∧ (spec_l07Count.go 256 x0).f3 = [] ∧ keyOK (spec_l07Count.go 256 x0).f0 ∧ ((D (sha (spec_l07Count.go 256 x0).f0)).take n).take P.length = P ∧ 0 < cn0) → Ev (fun k => spec_l07Count.f k a b (n : Int) [x0, x1] (P.length : Int) (strOfNums P) room) (-1) := by
    intro hno
    by_cases q0 : room < 1
    · exact count_low _ _ _ _ _ _ _ q0
    refine count_j0 a b n x0 x1 _ _ room (by omega) h1 h2 ⟨by omega, by omega⟩ ?_
    by_cases q1 : (spec_l07Count.go 256 x0).f3 = [] ∧ keyOK (spec_l07Count.go 256 x0).f0
    · refine j0_good _ room a b n x0 x1 q1.1 q1.2 (j1_run P hP room a b n hn hl _ _ _ _ _ q1.2 ?_)
      by_cases q2 : ((D (sha (spec_l07Count.go 256 x0).f0)).take n).take P.length = P
      · rw [decide_eq_true q2]
        refine ev_succ ?_
        simp only [spec_l07Count.j2]
        refine ev_if_neg (by simp) ?_
        rw [← hbits] at h0 ⊢
        exact (l0_run room n hn bits hz a b x0 x1 (by omega) hr1 cn0 h0).1 (by rcases hs0 with h | h; omega; exact absurd ⟨by omega, q1.1, q1.2, q2, h⟩ hno)
      · rw [decide_eq_false q2]
        exact j2_true _ _ _ _ _ _
    · exact j0_bad _ _ _ _ _ _ _ q1
  refine ⟨neg, fun cn1 hc1 hs2 hs3 => ?_⟩
  have go : 1 ≤ room → (spec_l07Count.go 256 x0).f3 = [] → keyOK (spec_l07Count.go 256 x0).f0 → ((D (sha (spec_l07Count.go 256 x0).f0)).take n).take P.length = P → ∀ {r : Int}, Ev (fun k => spec_l07Count.l0 k room (strOfNums bits) 0 0 a b (n : Int) [x0, x1]) r → Ev (fun k => spec_l07Count.f k a b (n : Int) [x0, x1] (P.length : Int) (strOfNums P) room) r := by
    intro q0 q1 q2 q3 r hr
    refine count_j0 a b n x0 x1 _ _ room q0 h1 h2 ⟨by omega, by omega⟩ (j0_good _ room a b n x0 x1 q1 q2 (j1_run P hP room a b n hn hl _ _ _ _ _ q2 ?_))
    rw [decide_eq_true q3]
    refine ev_succ ?_
    simp only [spec_l07Count.j2]
    refine ev_if_neg (by simp) ?_
    rw [← hbits]
    exact hr
  rw [← hbits] at h0 hc1
  constructor
  · intro hno
    by_cases q : 1 ≤ room ∧ (spec_l07Count.go 256 x0).f3 = [] ∧ keyOK (spec_l07Count.go 256 x0).f0 ∧ ((D (sha (spec_l07Count.go 256 x0).f0)).take n).take P.length = P ∧ 0 < cn0
    · obtain ⟨q0, q1, q2, q3, q4⟩ := q
      exact go q0 q1 q2 q3 (((l0_run room n hn bits hz a b x0 x1 q0 hr1 cn0 h0).2 cn1 q4 hs1 hc1).1 (by omega))
    · exact neg q
  · intro q0 q1 q2 q3 q4 q5
    exact go q0 q1 q2 q3 (((l0_run room n hn bits hz a b x0 x1 q0 hr1 cn0 h0).2 cn1 q4 hs1 hc1).2 q5 hs3)
theorem p1_ev (n : Nat) (hn : n ≤ 255) (side : Int) (x : S51) (hx : x.f2.size = 32) : ∃ b : Bool, Ev (fun _ : Nat => impl_mapPairs.p1 (n : Int) side x) b ∧ (b = true ↔ dig x.f2 (n : Int) - 48 ≠ side) := by
  refine ⟨(dig x.f2 (n : Int) - 48) != side, ?_, bne_iff_ne⟩
  unfold impl_mapPairs.p1
  rw [bit_dig x.f2 hx (n : Int) (by omega) (by omega)]
  exact ev_some _
theorem p2_ev (h : ByteArray) (hh : h.size = 32) (n : Nat) (hn : n ≤ 255) (x : S51) (hx : x.f2.size = 32) : ∃ b : Bool, Ev (fun k => impl_mapPairs.p2 k h (n : Int) x) b ∧ (b = true ↔ (D x.f2).take n ≠ (D h).take n) := by
  obtain ⟨r, hr, hq⟩ := ahead_ev x.f2 h hx hh n (by omega)
  refine ⟨!r, ?_, ?_⟩
  · unfold impl_mapPairs.p2
    exact ev_bind hr (ev_some _)
  · cases r with
    | true => simp [hq.1 rfl]
    | false => simp only [Bool.not_false, true_iff]; exact fun he => absurd (hq.2 he) (by decide)
/-- What the two say of a branch. -/
def Good (x : S29) (P : List Int) (room : Int) (cn : Int) (out : List S51) (ok : Bool) (room' : Int) : Prop :=
  (cn = -1 ∨ 0 < cn) ∧ (0 < cn ↔ ok = true ∧ ∀ q ∈ out, (D q.f2).take P.length = P) ∧ (0 < cn → cn = (out.length : Int)) ∧
  (ok = true → 0 ≤ room' ∧ (out.length : Int) + room' = room ∧ (∀ q ∈ out, q.f2.size = 32) ∧ ∃ m : Nat, m + P.length ≤ 256 ∧ (spec_l07Count.go m x).f3 = [] ∧ keyOK (spec_l07Count.go m x).f0 ∧ ∃ (q : S51) (r : List S51), out = q :: r ∧ q.f2 = sha (spec_l07Count.go m x).f0)
theorem good_no (x : S29) (P : List Int) (room room' : Int) : Good x P room (-1) [] false room' := ⟨.inl rfl, ⟨fun h => absurd h (by decide), fun h => absurd h.1 (by decide)⟩, fun h => absurd h (by decide), fun h => absurd h (by decide)⟩
theorem good_bad (x : S29) (P : List Int) (room room' : Int) (out : List S51) : Good x P room (-1) out false room' := ⟨.inl rfl, ⟨fun h => absurd h (by decide), fun h => absurd h.1 (by decide)⟩, fun h => absurd h (by decide), fun h => absurd h (by decide)⟩
def Both (x : S29) : Prop := ∀ (P : List Int) (room : Int), (∀ y ∈ P, 0 ≤ y ∧ y < 256) → P.length ≤ 256 → 0 ≤ room → room ≤ 40 →
  ∃ (cn : Int) (out : List S51) (ok : Bool) (room' : Int), Ev (fun k => spec_l07Count.f k x.f0 x.f1 x.f2 x.f3 (P.length : Int) (strOfNums P) room) cn ∧ Ev (fun k => impl_mapPairs.pairs k x.f0 x.f1 x.f2 x.f3 ((P.length : Int) - 1) room) (out, ok, room') ∧ Good x P room cn out ok room'
theorem both_leaf (x : S29) (hx : x.f3 = []) : Both x := by
  intro P room hP hl hr0 hr1
  obtain ⟨lf, e1, h1⟩ := leaf_dec x.f0 x.f1 x.f2 x.f3
  cases lf with
  | true =>
    have hlf := h1.1 rfl
    have hw : wrap64 (room - 1) = room - 1 := wrap_in (by omega) (by omega)
    have hi : Ev (fun k => impl_mapPairs.pairs k x.f0 x.f1 x.f2 x.f3 ((P.length : Int) - 1) room) ([(⟨x.f0, x.f1, sha x.f0⟩ : S51)], decide (room - 1 ≥ 0), room - 1) := by
      refine ev_succ (ev_of_eq fun k => ?_)
      rw [impl_mapPairs.pairs, e1, Option.bind_some, if_pos rfl, ihash _ hlf.2.1, Option.bind_some, hw]
    clear hw
    by_cases hr : room < 1
    · refine ⟨-1, _, _, _, count_low _ _ _ _ _ _ _ hr, hi, ?_⟩
      rw [decide_eq_false (by omega)]
      exact good_bad _ _ _ _ _
    · obtain ⟨cn, hc, hs, hq⟩ := count_leaf x.f0 x.f1 x.f2 P hP hl (P.length : Int) room (by omega)
      rw [hx] at hlf
      refine ⟨cn, _, _, _, by rw [hx]; exact hc, hi, ?_⟩
      rw [decide_eq_true (show room - 1 ≥ 0 by omega)]
      have hg : spec_l07Count.go 0 x = x := go_leaf 0 x hx
      refine ⟨?_, ⟨fun h => ⟨rfl, fun q hm => ?_⟩, fun h => ?_⟩, fun h => ?_, fun _ => ⟨?_, ?_, ?_, 0, ?_, by rw [hg]; exact hx, by rw [hg]; exact hlf.2.1, ⟨x.f0, x.f1, sha x.f0⟩, [], rfl, by rw [hg]⟩⟩
      · rcases hs with h | h
        · exact .inl h
        · exact .inr (by omega)
      · rw [List.mem_singleton] at hm
        subst hm
        exact (hq.1 (by omega)).2
      · have h3 := h.2 ⟨x.f0, x.f1, sha x.f0⟩ (List.mem_singleton.2 rfl)
        have h4 := hq.2 ⟨hlf, h3⟩
        clear h3 h
        omega
      · rcases hs with h2 | h2
        · omega
        · rw [h2, List.length_singleton]; rfl
      · omega
      · show ((1 : Nat) : Int) + (room - 1) = room
        omega
      · intro q hm
        rw [List.mem_singleton] at hm
        subst hm
        exact sha32 _
      · omega
  | false =>
    have hno : ¬ leafOK x.f0 x.f1 x.f2 x.f3 := fun h => absurd (h1.2 h) (by decide)
    obtain ⟨fk, e2, h2⟩ := fork_dec x.f0 x.f1 x.f2 x.f3
    have hfk : fk = false := by
      cases fk with
      | false => rfl
      | true => have := (h2.1 rfl).2.2.2; rw [hx] at this; simp at this
    subst hfk
    have hi : Ev (fun k => impl_mapPairs.pairs k x.f0 x.f1 x.f2 x.f3 ((P.length : Int) - 1) room) (([] : List S51), false, room) := by
      refine ev_succ (ev_of_eq fun k => ?_)
      rw [impl_mapPairs.pairs, e1, Option.bind_some, if_neg (by decide), e2, Option.bind_some, if_neg (by decide)]
    by_cases hr : room < 1
    · exact ⟨-1, _, _, _, count_low _ _ _ _ _ _ _ hr, hi, good_no _ _ _ _⟩
    · obtain ⟨cn, hc, hs, hq⟩ := count_leaf x.f0 x.f1 x.f2 P hP hl (P.length : Int) room (by omega)
      have : cn = -1 := by
        rcases hs with h | h
        · exact h
        · exact absurd (by rw [hx]; exact (hq.1 h).1) hno
      subst this
      exact ⟨-1, _, _, _, by rw [hx]; exact hc, hi, good_no _ _ _ _⟩
theorem both_nofork (x : S29) (hx : x.f3 ≠ []) (hn : ∀ P : List Int, ¬ (x.f0.toList = [] ∧ x.f1.toList = [] ∧ (0 ≤ x.f2 ∧ x.f2 ≤ 255) ∧ x.f3.length = 2)) : Both x := by
  intro P room hP hl hr0 hr1
  obtain ⟨lf, e1, h1⟩ := leaf_dec x.f0 x.f1 x.f2 x.f3
  have hlf : lf = false := by
    cases lf with
    | false => rfl
    | true => exact absurd (h1.1 rfl).2.2.2 hx
  subst hlf
  obtain ⟨fk, e2, h2⟩ := fork_dec x.f0 x.f1 x.f2 x.f3
  have hfk : fk = false := by
    cases fk with
    | false => rfl
    | true => exact absurd (h2.1 rfl) (hn P)
  subst hfk
  have hi : Ev (fun k => impl_mapPairs.pairs k x.f0 x.f1 x.f2 x.f3 ((P.length : Int) - 1) room) (([] : List S51), false, room) := by
    refine ev_succ (ev_of_eq fun k => ?_)
    rw [impl_mapPairs.pairs, e1, Option.bind_some, if_neg (by decide), e2, Option.bind_some, if_neg (by decide)]
  by_cases hr : room < 1
  · exact ⟨-1, _, _, _, count_low _ _ _ _ _ _ _ hr, hi, good_no _ _ _ _⟩
  · exact ⟨-1, _, _, _, count_nofork _ _ _ _ _ _ _ (by omega) hx (fun h => hn P ⟨h.1, h.2.1, ⟨by omega, h.2.2.1.2⟩, h.2.2.2⟩), hi, good_no _ _ _ _⟩

theorem take_snoc (s : ByteArray) (n : Nat) (h : n < 256) (bits : List Int) (hb : bits.length = n) (d : Int) : (D s).take (n + 1) = bits ++ [d] ↔ (D s).take n = bits ∧ dig s (n : Int) = d := by
  rw [← D_next s n h]
  constructor
  · intro he
    have h2 := List.append_inj he (by rw [List.length_take, D_len, hb]; omega)
    exact ⟨h2.1, by simpa using h2.2⟩
  · intro he
    rw [he.1, he.2]
theorem take_take_le (l : List Int) (m n : Nat) (h : m ≤ n) : (l.take n).take m = l.take m := by
  rw [List.take_take, Nat.min_eq_left h]
theorem both_fork (x x0 x1 : S29) (hx : x.f3 = [x0, x1]) (h1 : x.f0.toList = []) (h2 : x.f1.toList = []) (n : Nat) (hn : x.f2 = (n : Int)) (hn5 : n ≤ 255) (b0 : Both x0) (b1 : Both x1) : Both x := by
  intro P room hP hl hr0 hr1
  obtain ⟨lf, e1, q1⟩ := leaf_dec x.f0 x.f1 x.f2 x.f3
  have hlf : lf = false := by
    cases lf with
    | false => rfl
    | true => have := (q1.1 rfl).2.2.2; rw [hx] at this; cases this
  subst hlf
  obtain ⟨fk, e2, q2⟩ := fork_dec x.f0 x.f1 x.f2 x.f3
  have hfk : fk = true := q2.2 ⟨h1, h2, ⟨by omega, by omega⟩, by rw [hx]; rfl⟩
  subst hfk
  clear q1 q2
  by_cases hab : x.f2 ≤ (P.length : Int) - 1
  · have hi : Ev (fun k => impl_mapPairs.pairs k x.f0 x.f1 x.f2 x.f3 ((P.length : Int) - 1) room) (([] : List S51), false, room) := by
      refine ev_succ (ev_of_eq fun k => ?_)
      rw [impl_mapPairs.pairs, e1, Option.bind_some, if_neg (by decide), e2, Option.bind_some, if_pos rfl, if_pos hab]
    by_cases hr : room < 1
    · exact ⟨-1, _, _, _, count_low _ _ _ _ _ _ _ hr, hi, good_no _ _ _ _⟩
    · exact ⟨-1, _, _, _, count_nofork _ _ _ _ _ _ _ (by omega) (by rw [hx]; exact fun h => by cases h) (fun h => by have := h.2.2.1.1; omega), hi, good_no _ _ _ _⟩
  have start : ∀ {r : List S51 × Bool × Int}, Ev (fun k => impl_mapPairs.go (impl_mapPairs.pairs k) k (n : Int) [x0, x1] 0 room []) r → Ev (fun k => impl_mapPairs.pairs k x.f0 x.f1 x.f2 x.f3 ((P.length : Int) - 1) room) r := by
    intro r hh
    refine ev_succ (ev_congr (fun k => ?_) hh)
    rw [impl_mapPairs.pairs, e1, Option.bind_some, if_neg (by decide), e2, Option.bind_some, if_pos rfl, if_neg hab, hn, hx]
  have hln : P.length ≤ n := by omega
  clear hab e1 e2
  obtain ⟨bits, hbits⟩ : ∃ bits, bits = (D (sha (spec_l07Count.go 256 x0).f0)).take n := ⟨_, rfl⟩
  have hz : bits.length = n := by rw [hbits, List.length_take, D_len]; omega
  have hbr : ∀ d : Int, (0 ≤ d ∧ d < 256) → ∀ y ∈ bits ++ [d], 0 ≤ y ∧ y < 256 := by
    intro d hd y hy
    rcases List.mem_append.1 hy with hy | hy
    · rw [hbits] at hy
      exact D_range _ y (List.mem_of_mem_take hy)
    · rw [List.mem_singleton] at hy
      subst hy
      exact hd
  have hlen : ∀ d : Int, (bits ++ [d]).length = n + 1 := fun d => by rw [List.length_append, hz]; rfl
  have hlenI : ∀ d : Int, ((bits ++ [d]).length : Int) = (n : Int) + 1 := fun d => by rw [hlen]; omega
  obtain ⟨cn0, out0, ok0, rm0, hc0, hp0, g0⟩ := b0 (bits ++ [48]) room (hbr 48 (by omega)) (by rw [hlen]; omega) hr0 hr1
  rw [hlenI] at hc0 hp0
  rw [show (n : Int) + 1 - 1 = (n : Int) from by omega] at hp0
  obtain ⟨gs0, gi0, gl0, gk0⟩ := g0
  have hcn0 : cn0 ≤ 40 := by
    by_cases hp : 0 < cn0
    · have h3 := gl0 hp
      obtain ⟨h4, h5, _⟩ := gk0 (gi0.1 hp).1
      omega
    · omega
  rw [hbits] at hc0
  have sp := count_fork P hP room x.f0 x.f1 n hn5 hln x0 x1 h1 h2 hr0 hr1 cn0 hc0 gs0 hcn0
  rw [← hbits] at sp
  rw [hx, hn]
  have start' := @start
  rw [hx, hn] at start'
  clear start
  cases ok0 with
  | false =>
    refine ⟨-1, [], false, rm0, sp.1 (fun h => absurd (gi0.1 h.2.2.2.2).1 (by decide)), start' ?_, good_no _ _ _ _⟩
    simp only [impl_mapPairs.go]
    exact ev_bind hp0 (ev_if_neg (show ¬ ((false : Bool) = true) by decide) (ev_some _))
  | true =>
    obtain ⟨hrm0, hsum0, hsz0, m0, hm0, hgl0, hgk0, y0, r0, hy0, hys0⟩ := gk0 rfl
    have hF : spec_l07Count.go 256 x0 = spec_l07Count.go m0 x0 := go_more m0 256 x0 hgl0 (by omega)
    rw [hlen] at hm0
    have A0 : 0 < cn0 ↔ ∀ q ∈ out0, (D q.f2).take n = bits ∧ dig q.f2 (n : Int) = 48 := by
      rw [gi0, hlen]
      constructor
      · intro h q hq; exact (take_snoc q.f2 n (by omega) bits hz 48).1 (h.2 q hq)
      · intro h; exact ⟨rfl, fun q hq => (take_snoc q.f2 n (by omega) bits hz 48).2 (h q hq)⟩
    obtain ⟨ba, hba, hbai⟩ := any_ev (fun _ q => impl_mapPairs.p1 (n : Int) ((0 : Nat) : Int) q) (fun q => dig q.f2 (n : Int) - 48 ≠ ((0 : Nat) : Int)) out0 (fun q hq => p1_ev n hn5 _ q (hsz0 q hq))
    cases ba with
    | true =>
      refine ⟨-1, [], false, rm0, sp.1 (fun h => ?_), start' ?_, good_no _ _ _ _⟩
      · obtain ⟨q, hq, hne⟩ := hbai.1 rfl
        have := (A0.1 h.2.2.2.2 q hq).2
        omega
      · simp only [impl_mapPairs.go]
        exact ev_bind hp0 (ev_if_pos rfl (ev_bind hba (ev_if_pos rfl (ev_some _))))
    | false =>
      have N0 : ∀ q ∈ out0, dig q.f2 (n : Int) = 48 := by
        intro q hq
        by_cases h : dig q.f2 (n : Int) = 48
        · exact h
        · exact absurd (hbai.2 ⟨q, hq, by omega⟩) (by decide)
      have hrm40 : rm0 ≤ 40 := by omega
      obtain ⟨cn1, out1, ok1, rm1, hc1, hp1, g1⟩ := b1 (bits ++ [49]) rm0 (hbr 49 (by omega)) (by rw [hlen]; omega) hrm0 hrm40
      rw [hlenI] at hc1 hp1
      rw [show (n : Int) + 1 - 1 = (n : Int) from by omega] at hp1
      obtain ⟨gs1, gi1, gl1, gk1⟩ := g1
      have hcn1 : cn1 ≤ 40 := by
        by_cases hp : 0 < cn1
        · have h3 := gl1 hp
          obtain ⟨h4, h5, _⟩ := gk1 (gi1.1 hp).1
          omega
        · omega
      have hroom : 0 < cn0 → room - cn0 = rm0 := fun hp => by have := gl0 hp; omega
      have spno1 : ¬ 0 < cn1 → Ev (fun k => spec_l07Count.f k x.f0 x.f1 (n : Int) [x0, x1] (P.length : Int) (strOfNums P) room) (-1) := fun h => by
        by_cases hp : 0 < cn0
        · exact (sp.2 cn1 (by rw [hroom hp]; exact hc1) gs1 hcn1).1 h
        · exact sp.1 (fun hh => hp hh.2.2.2.2)
      have next : ∀ {r : List S51 × Bool × Int}, Ev (fun k => impl_mapPairs.go (impl_mapPairs.pairs k) k (n : Int) [x1] 1 rm0 ([] ++ out0)) r → Ev (fun k => impl_mapPairs.pairs k x.f0 x.f1 (n : Int) [x0, x1] ((P.length : Int) - 1) room) r := by
        intro r hh
        refine start' ?_
        conv => arg 1; intro k; unfold impl_mapPairs.go
        exact ev_bind hp0 (ev_if_pos rfl (ev_bind hba (ev_if_neg (by decide) (ev_if_pos (by show (([] : List S51).length + out0.length) * 48 ≤ 140737488355328; rw [List.length_nil]; omega) hh))))
      cases ok1 with
      | false =>
        refine ⟨-1, [], false, rm1, spno1 (fun h => absurd (gi1.1 h).1 (by decide)), next ?_, good_no _ _ _ _⟩
        conv => arg 1; intro k; unfold impl_mapPairs.go
        exact ev_bind hp1 (ev_if_neg (show ¬ ((false : Bool) = true) by decide) (ev_some _))
      | true =>
        obtain ⟨hrm1, hsum1, hsz1, _⟩ := gk1 rfl
        have A1 : 0 < cn1 ↔ ∀ q ∈ out1, (D q.f2).take n = bits ∧ dig q.f2 (n : Int) = 49 := by
          rw [gi1, hlen]
          constructor
          · intro h q hq; exact (take_snoc q.f2 n (by omega) bits hz 49).1 (h.2 q hq)
          · intro h; exact ⟨rfl, fun q hq => (take_snoc q.f2 n (by omega) bits hz 49).2 (h q hq)⟩
        obtain ⟨bb, hbb, hbbi⟩ := any_ev (fun _ q => impl_mapPairs.p1 (n : Int) ((1 : Nat) : Int) q) (fun q => dig q.f2 (n : Int) - 48 ≠ ((1 : Nat) : Int)) out1 (fun q hq => p1_ev n hn5 _ q (hsz1 q hq))
        cases bb with
        | true =>
          refine ⟨-1, [], false, rm1, spno1 (fun h => ?_), next ?_, good_no _ _ _ _⟩
          · obtain ⟨q, hq, hne⟩ := hbbi.1 rfl
            have := (A1.1 h q hq).2
            omega
          · conv => arg 1; intro k; unfold impl_mapPairs.go
            exact ev_bind hp1 (ev_if_pos rfl (ev_bind hbb (ev_if_pos rfl (ev_some _))))
        | false =>
          have N1 : ∀ q ∈ out1, dig q.f2 (n : Int) = 49 := by
            intro q hq
            by_cases h : dig q.f2 (n : Int) = 49
            · exact h
            · exact absurd (hbbi.2 ⟨q, hq, by omega⟩) (by decide)
          obtain ⟨out, hout⟩ : ∃ out, out = ([] ++ out0) ++ out1 := ⟨_, rfl⟩
          have hmem : ∀ q, q ∈ out ↔ q ∈ out0 ∨ q ∈ out1 := fun q => by rw [hout, List.nil_append]; exact List.mem_append
          have hsz : ∀ q ∈ out, q.f2.size = 32 := fun q hq => ((hmem q).1 hq).elim (hsz0 q) (hsz1 q)
          have hlo : out.length = out0.length + out1.length := by rw [hout, List.nil_append, List.length_append]
          have hrd : rd_T51 out 0 = y0 := by rw [hout, hy0]; rfl
          have hcons : out = y0 :: (r0 ++ out1) := by rw [hout, hy0]; rfl
          have hy0m : y0 ∈ out := by rw [hcons]; exact List.mem_cons_self ..
          have hy0b : (D y0.f2).take n = bits := by rw [hys0, ← hF, hbits]
          obtain ⟨bc, hbc, hbci⟩ := any_ev (fun k q => impl_mapPairs.p2 k y0.f2 (n : Int) q) (fun q => (D q.f2).take n ≠ (D y0.f2).take n) out (fun q hq => p2_ev y0.f2 (hsz y0 hy0m) n hn5 q (hsz q hq))
          have hi : Ev (fun k => impl_mapPairs.pairs k x.f0 x.f1 (n : Int) [x0, x1] ((P.length : Int) - 1) room) (out, !bc, rm1) := by
            refine next ?_
            conv => arg 1; intro k; unfold impl_mapPairs.go
            refine ev_bind hp1 (ev_if_pos rfl (ev_bind hbb (ev_if_neg (by decide) (ev_if_pos (by show (([] ++ out0 : List S51).length + out1.length) * 48 ≤ 140737488355328; rw [List.nil_append]; omega) ?_))))
            conv => arg 1; intro k; unfold impl_mapPairs.go
            rw [← hout, hrd]
            exact ev_bind hbc (ev_some _)
          cases bc with
          | true =>
            refine ⟨-1, out, false, rm1, ?_, hi, good_bad _ _ _ _ _⟩
            by_cases hp1' : 0 < cn1
            · refine sp.1 (fun h => ?_)
              obtain ⟨q, hq, hne⟩ := hbci.1 rfl
              rw [hy0b] at hne
              rcases (hmem q).1 hq with hq | hq
              · exact hne (A0.1 h.2.2.2.2 q hq).1
              · exact hne (A1.1 hp1' q hq).1
            · exact spno1 hp1'
          | false =>
            have all : ∀ q ∈ out, (D q.f2).take n = bits := by
              intro q hq
              by_cases h : (D q.f2).take n = (D y0.f2).take n
              · rw [h, hy0b]
              · exact absurd (hbci.2 ⟨q, hq, h⟩) (by decide)
            have p0 : 0 < cn0 := A0.2 (fun q hq => ⟨all q ((hmem q).2 (.inl hq)), N0 q hq⟩)
            have p1 : 0 < cn1 := A1.2 (fun q hq => ⟨all q ((hmem q).2 (.inr hq)), N1 q hq⟩)
            have pl0 := gl0 p0
            have pl1 := gl1 p1
            have hroom1 : 1 ≤ room := by omega
            have inv : (true : Bool) = true → 0 ≤ rm1 ∧ (out.length : Int) + rm1 = room ∧ (∀ q ∈ out, q.f2.size = 32) ∧ ∃ m : Nat, m + P.length ≤ 256 ∧ (spec_l07Count.go m x).f3 = [] ∧ keyOK (spec_l07Count.go m x).f0 ∧ ∃ (q : S51) (r : List S51), out = q :: r ∧ q.f2 = sha (spec_l07Count.go m x).f0 := by
              intro _
              have hgx : spec_l07Count.go (m0 + 1) x = spec_l07Count.go m0 x0 := by
                rw [go_next m0 x (by rw [hx]; simp), hx]
                rfl
              exact ⟨hrm1, by omega, hsz, m0 + 1, by omega, by rw [hgx]; exact hgl0, by rw [hgx]; exact hgk0, y0, r0 ++ out1, hcons, by rw [hgx]; exact hys0⟩
            by_cases hPm : bits.take P.length = P
            · refine ⟨cn0 + cn1, out, true, rm1, ?_, hi, .inr (by omega), ⟨fun _ => ⟨rfl, fun q hq => ?_⟩, fun _ => by omega⟩, fun _ => by omega, inv⟩
              · exact (sp.2 cn1 (by rw [hroom p0]; exact hc1) gs1 hcn1).2 hroom1 (by rw [hF]; exact hgl0) (by rw [hF]; exact hgk0) hPm p0 p1
              · rw [← take_take_le _ _ _ hln, all q hq, hPm]
            · refine ⟨-1, out, true, rm1, sp.1 (fun h => hPm h.2.2.2.1), hi, .inl rfl, ⟨fun h => absurd h (by decide), fun h => ?_⟩, fun h => absurd h (by decide), inv⟩
              refine absurd ?_ hPm
              have h3 := h.2 y0 hy0m
              rw [← take_take_le _ _ _ hln, hy0b] at h3
              exact h3
theorem both_all : ∀ (s : Nat) (x : S29), SizeOf.sizeOf x ≤ s → Both x := by
  intro s
  induction s with
  | zero => intro x hs; cases x; simp at hs
  | succ s ih =>
    intro x hs
    by_cases hx : x.f3 = []
    · exact both_leaf x hx
    by_cases hf : x.f0.toList = [] ∧ x.f1.toList = [] ∧ (0 ≤ x.f2 ∧ x.f2 ≤ 255) ∧ x.f3.length = 2
    · obtain ⟨h1, h2, h3, h4⟩ := hf
      obtain ⟨n, hn⟩ := Int.eq_ofNat_of_zero_le h3.1
      have hk : ∀ y ∈ x.f3, SizeOf.sizeOf y ≤ s := by
        intro y hy
        have h5 := List.sizeOf_lt_of_mem hy
        cases x
        simp at hs h5 ⊢
        omega
      match hq : x.f3, h4 with
      | [x0, x1], _ => exact both_fork x x0 x1 hq h1 h2 n hn (by omega) (ih x0 (hk x0 (by rw [hq]; simp))) (ih x1 (hk x1 (by rw [hq]; simp)))
    · exact both_nofork x hx (fun _ => hf)

/-- How many nodes stand in a row of trees, theirs and all below. -/
inductive Cnt24 : List S24 → Nat → Prop
  | nil : Cnt24 [] 0
  | cons (x : S24) (r : List S24) (n m : Nat) : Cnt24 x.f3 n → Cnt24 r m → Cnt24 (x :: r) (1 + n + m)
inductive Cnt29 : List S29 → Nat → Prop
  | nil : Cnt29 [] 0
  | cons (x : S29) (r : List S29) (n m : Nat) : Cnt29 x.f3 n → Cnt29 r m → Cnt29 (x :: r) (1 + n + m)
theorem cnt_map (f : S24 → S29) (l : List S24) (n : Nat) (h : Cnt24 l n) : (∀ y ∈ l, ∀ m : Nat, Cnt24 y.f3 m → Cnt29 (f y).f3 m) → Cnt29 (l.map f) n := by
  induction h with
  | nil => intro _; exact Cnt29.nil
  | cons x r n m h1 _ _ ih2 =>
    intro hf
    exact Cnt29.cons (f x) (r.map f) n m (hf x List.mem_cons_self n h1) (ih2 fun y hy => hf y (List.mem_cons_of_mem _ hy))
/-- A tree that can be turned, and the turned one is like itself. -/
def TB (x : S24) : Prop := ∃ y : S29, Ev (fun k => laws_toBranch.f k x.f0 x.f1 x.f2 x.f3) (y.f0, y.f1, y.f2, y.f3) ∧ Ev (fun k => laws_eqBranch.f k y.f0 y.f1 y.f2 y.f3 y.f0 y.f1 y.f2 y.f3) true ∧ ∀ n : Nat, Cnt24 x.f3 n → Cnt29 y.f3 n
theorem set_copy (ys x : List S29) (i : Nat) (hx : x.length = ys.length) (hi : i < ys.length) (h : ∀ j, j < i → x[j]? = ys[j]?) : (x.set i (rd_T29 ys (i : Int))).length = ys.length ∧ ∀ j, j < i + 1 → (x.set i (rd_T29 ys (i : Int)))[j]? = ys[j]? := by
  refine ⟨by rw [List.length_set, hx], fun j hj => ?_⟩
  rw [List.getElem?_set]
  by_cases hji : i = j
  · subst hji
    rw [if_pos rfl, if_pos (by omega)]
    unfold rd_T29
    rw [Int.toNat_natCast, List.getD_eq_getElem?_getD, List.getElem?_eq_getElem hi]
    rfl
  · rw [if_neg hji]
    exact h j (by omega)
theorem toS_from (l : List S24) (hl : l.length ≤ 1048576) (ys : List S29) (hy : ys.length = l.length) (ht : ∀ i : Nat, i < l.length → Ev (fun k => laws_toBranch.f k (rd_T24 l (i : Int)).f0 (rd_T24 l (i : Int)).f1 (rd_T24 l (i : Int)).f2 (rd_T24 l (i : Int)).f3) ((rd_T29 ys (i : Int)).f0, (rd_T29 ys (i : Int)).f1, (rd_T29 ys (i : Int)).f2, (rd_T29 ys (i : Int)).f3)) (d : Nat) :
    ∀ (i : Nat) (x : List S29), i + d = l.length → x.length = ys.length → (∀ j, j < i → x[j]? = ys[j]?) → Ev (fun k => laws_toBranchS.l0 k l x (i : Int)) ys := by
  induction d with
  | zero =>
    intro i x hi hx h
    have e : x = ys := by
      apply List.ext_getElem?
      intro j
      by_cases hj : j < i
      · exact h j hj
      · rw [List.getElem?_eq_none (by omega), List.getElem?_eq_none (by omega)]
    subst e
    refine ev_succ (ev_of_eq fun k => ?_)
    rw [laws_toBranchS.l0_succ, if_neg (by omega)]
  | succ d ih =>
    intro i x hi hx h
    obtain ⟨h1, h2⟩ := set_copy ys x i hx (by omega) h
    have w2 : Aside0 (wrap64 ((i : Int) + 1) = ((i + 1 : Nat) : Int)) := ⟨(wrap_in (by omega) (by omega)).trans (by omega)⟩
    have h3 := ih (i + 1) _ (by omega) h1 h2
    refine ev_succ (ev_congr (fun k => laws_toBranchS.l0_succ k l x (i : Int)) ?_)
    refine ev_if_pos (by omega) (ev_if_pos (by omega) (ev_bind (ht i (by omega)) (ev_if_pos (by omega) ?_)))
    rw [w2.out, Int.toNat_natCast, show (⟨(rd_T29 ys (i : Int)).f0, (rd_T29 ys (i : Int)).f1, (rd_T29 ys (i : Int)).f2, (rd_T29 ys (i : Int)).f3⟩ : S29) = rd_T29 ys (i : Int) from spec_l07Count.eta _]
    exact h3
theorem eqS_from (ys : List S29) (hl : ys.length ≤ 1048576) (ht : ∀ i : Nat, i < ys.length → Ev (fun k => laws_eqBranch.f k (rd_T29 ys (i : Int)).f0 (rd_T29 ys (i : Int)).f1 (rd_T29 ys (i : Int)).f2 (rd_T29 ys (i : Int)).f3 (rd_T29 ys (i : Int)).f0 (rd_T29 ys (i : Int)).f1 (rd_T29 ys (i : Int)).f2 (rd_T29 ys (i : Int)).f3) true) (d : Nat) :
    ∀ i : Nat, i + d = ys.length → Ev (fun k => laws_eqBranchS.l0 k ys ys (i : Int)) true := by
  induction d with
  | zero =>
    intro i hi
    refine ev_succ (ev_of_eq fun k => ?_)
    rw [laws_eqBranchS.l0_succ, if_neg (by omega)]
  | succ d ih =>
    intro i hi
    have w2 : Aside0 (wrap64 ((i : Int) + 1) = ((i + 1 : Nat) : Int)) := ⟨(wrap_in (by omega) (by omega)).trans (by omega)⟩
    have h3 := ih (i + 1) (by omega)
    refine ev_succ (ev_congr (fun k => laws_eqBranchS.l0_succ k ys ys (i : Int)) ?_)
    refine ev_if_pos (by omega) (ev_if_pos (by omega) (ev_if_pos (by omega) (ev_bind (ht i (by omega)) (ev_if_pos rfl ?_))))
    rw [w2.out]
    exact h3
theorem rd24_mem (l : List S24) (i : Nat) (h : i < l.length) : rd_T24 l (i : Int) ∈ l := by
  unfold rd_T24
  rw [Int.toNat_natCast, List.getD_eq_getElem?_getD, List.getElem?_eq_getElem h, Option.getD_some]
  exact List.getElem_mem h
theorem tb_of (x : S24) (hl : x.f3.length ≤ 1048576) (h : ∀ y ∈ x.f3, TB y) : TB x := by
  classical
  let f : S24 → S29 := fun y => if h : TB y then h.choose else z29
  have hf : ∀ y ∈ x.f3, Ev (fun k => laws_toBranch.f k y.f0 y.f1 y.f2 y.f3) ((f y).f0, (f y).f1, (f y).f2, (f y).f3) ∧ Ev (fun k => laws_eqBranch.f k (f y).f0 (f y).f1 (f y).f2 (f y).f3 (f y).f0 (f y).f1 (f y).f2 (f y).f3) true ∧ ∀ n : Nat, Cnt24 y.f3 n → Cnt29 (f y).f3 n := by
    intro y hy
    have e : f y = (h y hy).choose := by show (if h : TB y then h.choose else z29) = _; rw [dif_pos (h y hy)]
    rw [e]
    exact (h y hy).choose_spec
  obtain ⟨ys, hys⟩ : ∃ ys, ys = x.f3.map f := ⟨_, rfl⟩
  have hlen : ys.length = x.f3.length := by rw [hys, List.length_map]
  have hrd : ∀ i : Nat, i < x.f3.length → rd_T29 ys (i : Int) = f (rd_T24 x.f3 (i : Int)) := by
    intro i hi
    unfold rd_T29 rd_T24
    rw [Int.toNat_natCast, List.getD_eq_getElem?_getD, List.getD_eq_getElem?_getD, hys, List.getElem?_map, List.getElem?_eq_getElem hi]
    rfl
  refine ⟨⟨x.f0, x.f1, x.f2, ys⟩, ?_, ?_, fun n hn => by rw [hys]; exact cnt_map f x.f3 n hn fun y hy => (hf y hy).2.2⟩
  · have h1 := toS_from x.f3 hl ys hlen (fun i hi => by rw [hrd i hi]; exact (hf _ (rd24_mem _ i hi)).1) x.f3.length 0 (List.replicate x.f3.length z29) (by omega) (by rw [List.length_replicate, hlen]) (fun j hj => absurd hj (by omega))
    have h2 : Ev (fun k => laws_toBranchS.f k x.f3) ys := by
      unfold laws_toBranchS.f laws_toBranchS.h
      rw [Int.toNat_natCast]
      exact ev_if_pos (by omega) (ev_if_pos (by omega) h1)
    exact ev_bind (g := fun k => laws_toBranchS.f k x.f3) h2 (ev_some _)
  · have h1 := eqS_from ys (by omega) (fun i hi => by rw [hrd i (by omega)]; exact (hf _ (rd24_mem _ i (by omega))).2.1) ys.length 0 (by omega)
    have h2 : Ev (fun k => laws_eqBranchS.f k ys ys) true := by
      unfold laws_eqBranchS.f laws_eqBranchS.h
      exact ev_if_pos rfl h1
    exact ev_if_pos rfl (ev_if_pos rfl (ev_if_pos rfl (ev_bind (g := fun k => laws_eqBranchS.f k ys ys) h2 (ev_if_pos rfl (ev_some _)))))
def SZ (x : S24) : Prop := ∀ v : Int, 0 ≤ v → v ≤ 1048576 → ∃ s : Int, Ev (fun k => laws_szBranch.f k x.f0 x.f1 x.f2 x.f3 v) s ∧ (s = -1 ∨ 0 ≤ s ∧ s ≤ v ∧ TB x ∧ ∃ n : Nat, Cnt24 x.f3 n ∧ s + (n : Int) ≤ v)
theorem szS_from (l : List S24) (hl : l.length ≤ 1048576) (hs : ∀ y ∈ l, SZ y) (d : Nat) : ∀ (i : Nat) (v : Int), i + d = l.length → 0 ≤ v → v ≤ 1048576 →
    ∃ s : Int, Ev (fun k => laws_szBranchS.l0 k l v (i : Int)) s ∧ (s = -1 ∨ 0 ≤ s ∧ s ≤ v ∧ (∀ j : Nat, i ≤ j → j < l.length → TB (rd_T24 l (j : Int))) ∧ ∃ n : Nat, Cnt24 (l.drop i) n ∧ s + (n : Int) ≤ v + ((l.length : Int) - (i : Int))) := by
  induction d with
  | zero =>
    intro i v hi h0 h1
    refine ⟨v, ev_succ (ev_of_eq fun k => ?_), .inr ⟨h0, Int.le_refl _, fun j h2 h3 => absurd h3 (by omega), 0, by rw [List.drop_eq_nil_of_le (by omega)]; exact Cnt24.nil, by omega⟩⟩
    rw [laws_szBranchS.l0_succ, if_neg (by omega)]
  | succ d ih =>
    intro i v hi h0 h1
    have w2 : Aside0 (wrap64 ((i : Int) + 1) = ((i + 1 : Nat) : Int)) := ⟨(wrap_in (by omega) (by omega)).trans (by omega)⟩
    obtain ⟨t, ht, hq⟩ := hs _ (rd24_mem l i (by omega)) v h0 h1
    have start : ∀ {s : Int}, Ev (fun k => if t < 0 then (some (-1)) else (laws_szBranchS.l0 k l t (wrap64 ((i : Int) + 1)))) s → Ev (fun k => laws_szBranchS.l0 k l v (i : Int)) s := fun hh =>
      ev_succ (ev_congr (fun k => laws_szBranchS.l0_succ k l v (i : Int)) (ev_if_pos (by omega) (ev_if_pos (by omega) (ev_bind ht hh))))
    rcases hq with hq | ⟨q0, q1, q2, n1, q3, q4⟩
    · exact ⟨-1, start (ev_if_pos (by omega) (ev_some _)), .inl rfl⟩
    · obtain ⟨s, hsx, hr⟩ := ih (i + 1) t (by omega) q0 (by omega)
      refine ⟨s, start (ev_if_neg (by omega) (by rw [w2.out]; exact hsx)), ?_⟩
      rcases hr with hr | ⟨r0, r1, r2, m1, r3, r4⟩
      · exact .inl hr
      · have hd : l.drop i = rd_T24 l (i : Int) :: l.drop (i + 1) := by
          rw [List.drop_eq_getElem_cons (by omega)]
          unfold rd_T24
          rw [Int.toNat_natCast, List.getD_eq_getElem?_getD, List.getElem?_eq_getElem (by omega), Option.getD_some]
        refine .inr ⟨r0, by omega, fun j h2 h3 => ?_, 1 + n1 + m1, by rw [hd]; exact Cnt24.cons _ _ n1 m1 q3 r3, by clear w2 hd; omega⟩
        by_cases hj : j = i
        · subst hj; exact q2
        · exact r2 j (by omega) h3
theorem sz_of (x : S24) (h0 : x.f0.size ≤ maxLen) (h1 : x.f1.size ≤ maxLen) (hl : x.f3.length ≤ maxLen) (hs : ∀ y ∈ x.f3, SZ y) : SZ x := by
  intro v hv0 hv1
  unfold maxLen at h0 h1 hl
  have e1 : Aside0 (wrap64 (v - (x.f0.size : Int)) = v - (x.f0.size : Int)) := ⟨wrap_in (by omega) (by omega)⟩
  have start : ∀ {s : Int}, Ev (fun k => if v - (x.f0.size : Int) < 0 then (some (-1)) else (if (wrap64 (v - (x.f0.size : Int) - (x.f1.size : Int))) < 0 then (some (-1)) else ((laws_szBranchS.f k x.f3 (wrap64 (v - (x.f0.size : Int) - (x.f1.size : Int)))).bind fun t102 => (if t102 < 0 then (some (-1)) else (some t102))))) s → Ev (fun k => laws_szBranch.f k x.f0 x.f1 x.f2 x.f3 v) s := by
    intro s hh
    unfold laws_szBranch.f laws_szBranch.g
    rw [e1.out]
    exact hh
  by_cases c0 : v - (x.f0.size : Int) < 0
  · exact ⟨-1, start (ev_if_pos c0 (ev_some _)), .inl rfl⟩
  have e2 : Aside0 (wrap64 (v - (x.f0.size : Int) - (x.f1.size : Int)) = v - (x.f0.size : Int) - (x.f1.size : Int)) := ⟨wrap_in (by omega) (by omega)⟩
  rw [e2.out] at start
  by_cases c1 : v - (x.f0.size : Int) - (x.f1.size : Int) < 0
  · exact ⟨-1, start (ev_if_neg c0 (ev_if_pos c1 (ev_some _))), .inl rfl⟩
  obtain ⟨u, hu⟩ : ∃ u, u = v - (x.f0.size : Int) - (x.f1.size : Int) := ⟨_, rfl⟩
  rw [← hu] at start c1
  have e3 : Aside0 (wrap64 (u - (x.f3.length : Int)) = u - (x.f3.length : Int)) := ⟨wrap_in (by omega) (by omega)⟩
  by_cases c2 : u - (x.f3.length : Int) < 0
  · have h2 : Ev (fun k => laws_szBranchS.f k x.f3 u) (-1) := by
      unfold laws_szBranchS.f laws_szBranchS.h
      rw [e3.out]
      exact ev_if_pos c2 (ev_some _)
    exact ⟨-1, start (ev_if_neg c0 (ev_if_neg c1 (ev_bind h2 (ev_if_pos (by decide) (ev_some _))))), .inl rfl⟩
  · obtain ⟨s, hsx, hr⟩ := szS_from x.f3 (by omega) hs x.f3.length 0 (u - (x.f3.length : Int)) (by omega) (by omega) (by omega)
    have h2 : Ev (fun k => laws_szBranchS.f k x.f3 u) s := by
      unfold laws_szBranchS.f laws_szBranchS.h
      rw [e3.out]
      exact ev_if_neg c2 hsx
    rcases hr with hr | ⟨r0, r1, r2, n1, r3, r4⟩
    · exact ⟨-1, start (ev_if_neg c0 (ev_if_neg c1 (ev_bind h2 (ev_if_pos (by omega) (ev_some _))))), .inl rfl⟩
    · refine ⟨s, start (ev_if_neg c0 (ev_if_neg c1 (ev_bind h2 (ev_if_neg (by omega) (ev_some _))))), .inr ⟨r0, by omega, tb_of x (by omega) (fun y hy => ?_), n1, r3, by omega⟩⟩
      obtain ⟨j, hj, rfl⟩ := List.mem_iff_getElem.1 hy
      have h4 := r2 j (Nat.zero_le _) hj
      unfold rd_T24 at h4
      rw [Int.toNat_natCast, List.getD_eq_getElem?_getD, List.getElem?_eq_getElem hj, Option.getD_some] at h4
      exact h4
theorem sz_all (x : S24) (h : g24 x) : SZ x := by
  induction h with
  | mk x h0 h1 _ hl _ ih => exact sz_of x h0 h1 hl ih

/-- The command of a pair. -/
def cm (p : S51) : S53 := ⟨1, 0, 0, p.f0, p.f1⟩
/-- The leaves of a tree from left to right, as commands. -/
inductive WL : S29 → List S53 → Prop
  | leaf (x : S29) : leafOK x.f0 x.f1 x.f2 x.f3 → WL x [⟨1, 0, 0, x.f0, x.f1⟩]
  | fork (x x0 x1 : S29) (p q : List S53) : x.f3 = [x0, x1] → WL x0 p → WL x1 q → WL x (p ++ q)
theorem wl_of_pairs (k : Nat) : ∀ (x : S29) (above room : Int) (out : List S51) (room' : Int), 0 ≤ room → room ≤ 40 → impl_mapPairs.pairs k x.f0 x.f1 x.f2 x.f3 above room = some (out, true, room') → WL x (out.map cm) ∧ 0 ≤ room' ∧ room' + (out.length : Int) = room := by
  induction k with
  | zero =>
    intro x above room out room' _ _ h
    rw [impl_mapPairs.pairs] at h
    cases h
  | succ k ih =>
    intro x above room out room' hr0 hr1 h
    obtain ⟨lf, e1, q1⟩ := leaf_dec x.f0 x.f1 x.f2 x.f3
    obtain ⟨fk, e2, q2⟩ := fork_dec x.f0 x.f1 x.f2 x.f3
    rw [impl_mapPairs.pairs, e1, Option.bind_some] at h
    cases lf with
    | true =>
      rw [if_pos rfl, wrap_in (by omega) (by omega)] at h
      obtain ⟨hh, _, h⟩ := Option.bind_eq_some_iff.mp h
      have h2 := Option.some.inj h
      obtain ⟨h3, h4⟩ := Prod.mk.inj h2
      obtain ⟨h5, h6⟩ := Prod.mk.inj h4
      have h7 := of_decide_eq_true h5
      subst h3
      subst h6
      exact ⟨WL.leaf x (q1.1 rfl), h7, by simp only [List.length_cons, List.length_nil]; omega⟩
    | false =>
      rw [if_neg (by decide), e2, Option.bind_some] at h
      cases fk with
      | false =>
        rw [if_neg (by decide)] at h
        cases h
      | true =>
        rw [if_pos rfl] at h
        obtain ⟨_, _, _, h4⟩ := q2.1 rfl
        split at h
        · cases h
        · match hq : x.f3, h4 with
          | [x0, x1], _ =>
            rw [hq] at h
            unfold impl_mapPairs.go at h
            obtain ⟨⟨o0, k0, m0⟩, p0, h⟩ := Option.bind_eq_some_iff.mp h
            cases k0 with
            | false => rw [if_neg (show ¬ ((false : Bool) = true) by decide)] at h; cases h
            | true =>
              rw [if_pos rfl] at h
              obtain ⟨b, _, h⟩ := Option.bind_eq_some_iff.mp h
              cases b with
              | true => rw [if_pos rfl] at h; cases h
              | false =>
                rw [if_neg (by decide)] at h
                split at h
                · unfold impl_mapPairs.go at h
                  obtain ⟨⟨o1, k1, m1⟩, p1, h⟩ := Option.bind_eq_some_iff.mp h
                  cases k1 with
                  | false => rw [if_neg (show ¬ ((false : Bool) = true) by decide)] at h; cases h
                  | true =>
                    rw [if_pos rfl] at h
                    obtain ⟨b1, _, h⟩ := Option.bind_eq_some_iff.mp h
                    cases b1 with
                    | true => rw [if_pos rfl] at h; cases h
                    | false =>
                      rw [if_neg (by decide)] at h
                      split at h
                      · unfold impl_mapPairs.go at h
                        obtain ⟨b2, _, h⟩ := Option.bind_eq_some_iff.mp h
                        have h2 := Option.some.inj h
                        obtain ⟨h3, h4⟩ := Prod.mk.inj h2
                        obtain ⟨_, h6⟩ := Prod.mk.inj h4
                        simp only at p0 p1 h3 h6
                        obtain ⟨g0, g1, g2⟩ := ih x0 _ _ _ _ hr0 hr1 p0
                        obtain ⟨f0, f1, f2⟩ := ih x1 _ _ _ _ g1 (by omega) p1
                        subst h6
                        rw [← h3, List.nil_append, List.map_append, List.length_append]
                        exact ⟨WL.fork x x0 x1 _ _ hq g0 f0, f1, by omega⟩
                      · cases h
                · cases h
/-- The reference's list is that of the leaves. -/
theorem list_ev (x : S29) (ps : List S53) (h : WL x ps) : ∀ out : List S53, (out.length + ps.length) * 56 ≤ 140737488355328 → Ev (fun k => spec_l07List.f k x.f0 x.f1 x.f2 x.f3 out) (out ++ ps) := by
  induction h with
  | leaf x h =>
    intro out hb
    obtain ⟨hc, hk, _, hl⟩ := h
    have hne : ¬ x.f0.toList = ([] : List UInt8) := by
      intro h
      rw [ByteArray.toList_eq] at h
      have h2 : x.f0.size = 0 := by show x.f0.data.size = 0; rw [← Array.length_toList, h]; rfl
      unfold keyOK at hk
      omega
    have e1 : spec_l07Empty.f x.f0 x.f1 x.f2 x.f3 = some false := by unfold spec_l07Empty.f; rw [if_neg hne]
    have e2 : spec_l07Leaf.f x.f0 x.f1 x.f2 x.f3 = some true := by unfold spec_l07Leaf.f; rw [hl]; rfl
    refine ev_succ (ev_of_eq fun k => ?_)
    rw [spec_l07List.f, e1, Option.bind_some, if_neg (by decide), e2, Option.bind_some, if_pos rfl, if_pos (by simpa using hb)]
  | fork x x0 x1 p q hx _ _ ih0 ih1 =>
    intro out hb
    rw [List.length_append] at hb
    have e1 : spec_l07Empty.f x.f0 x.f1 x.f2 x.f3 = some false := by
      unfold spec_l07Empty.f
      rw [hx]
      repeat' split
      all_goals rfl
    have e2 : spec_l07Leaf.f x.f0 x.f1 x.f2 x.f3 = some false := by unfold spec_l07Leaf.f; rw [hx]; rfl
    have h0 := ih0 out (by omega)
    have h1 := ih1 (out ++ p) (by rw [List.length_append]; omega)
    rw [← List.append_assoc]
    refine ev_succ (ev_congr (fun k => ?_) (ev_bind h0 h1))
    rw [spec_l07List.f, e1, Option.bind_some, if_neg (by decide), e2, Option.bind_some, if_neg (by decide), hx, if_pos (by simp)]
    rfl
theorem rd51_get (ps : List S51) (i : Nat) (h : i < ps.length) : rd_T51 ps (i : Int) = ps[i] := by
  unfold rd_T51
  rw [Int.toNat_natCast, List.getD_eq_getElem?_getD, List.getElem?_eq_getElem h, Option.getD_some]
theorem mapl_from (ps : List S51) (hl : ps.length ≤ 1000) (d : Nat) : ∀ i : Nat, i + d = ps.length → Ev (fun k => impl_MapList.l0 k ((ps.take i).map cm) ps (ps.length : Int) (i : Int)) (ps.map cm, 0) := by
  induction d with
  | zero =>
    intro i hi
    refine ev_succ (ev_of_eq fun k => ?_)
    rw [impl_MapList.l0, if_neg (by omega), List.take_of_length_le (by omega)]
  | succ d ih =>
    intro i hi
    have w : Aside0 (wrap64 ((i : Int) + 1) = ((i + 1 : Nat) : Int)) := ⟨by rw [wrap_in (by omega) (by omega)]; omega⟩
    have h := ih (i + 1) (by omega)
    have e : (ps.take (i + 1)).map cm = (ps.take i).map cm ++ [(⟨1, 0, 0, (rd_T51 ps (i : Int)).f0, (rd_T51 ps (i : Int)).f1⟩ : S53)] := by
      rw [List.take_succ_eq_append_getElem (by omega), List.map_append, rd51_get ps i (by omega)]
      rfl
    rw [e] at h
    refine ev_succ ?_
    simp only [impl_MapList.l0, w.out]
    exact ev_if_pos (by omega) (ev_if_pos (by omega) (ev_if_pos (by omega) (ev_if_pos (by rw [List.length_map, List.length_take]; omega) h)))
/-- Both answer with the leaves. -/
theorem lists_same (y : S29) : ∃ (l : List S53) (c : Int), l.length ≤ 40 ∧ Ev (fun k => spec_MapList.f k y.f0 y.f1 y.f2 y.f3) (l, c) ∧ Ev (fun k => impl_MapList.f k y.f0 y.f1 y.f2 y.f3) (l, c) := by
  have he : spec_l07Empty.f y.f0 y.f1 y.f2 y.f3 = impl_Branch_isEmpty.f y.f0 y.f1 y.f2 y.f3 := rfl
  obtain ⟨e, hee⟩ : ∃ e, impl_Branch_isEmpty.f y.f0 y.f1 y.f2 y.f3 = some e := by
    unfold impl_Branch_isEmpty.f
    repeat' split
    all_goals exact ⟨_, rfl⟩
  have hse : spec_l07Empty.f y.f0 y.f1 y.f2 y.f3 = some e := he.trans hee
  unfold spec_MapList.f impl_MapList.f spec_MapOK.f impl_mapPairs.f
  simp only [hse, hee, Option.bind_some]
  cases e with
  | true =>
    have h1 : Ev (fun k => spec_l07List.f k y.f0 y.f1 y.f2 y.f3 []) ([] : List S53) := by
      refine ev_succ (ev_of_eq fun k => ?_)
      rw [spec_l07List.f, hse, Option.bind_some, if_pos rfl]
    have h2 : Ev (fun k => impl_MapList.l0 k ([] : List S53) ([] : List S51) (([] : List S51).length : Int) 0) (([] : List S53), 0) := by
      have := mapl_from [] (by simp) 0 0 (by simp)
      exact this
    exact ⟨[], 0, by simp, ev_bind (ev_if_pos rfl (ev_some true)) (ev_if_pos rfl (ev_bind h1 (ev_some _))), ev_bind (ev_if_pos rfl (ev_some (([] : List S51), true))) (ev_if_pos rfl h2)⟩
  | false =>
    obtain ⟨cn, out, ok, room', h1, h2, g⟩ := both_all _ y (Nat.le_refl _) [] 40 (fun y hy => by cases hy) (by simp) (by omega) (by omega)
    have hd : decide (cn > 0) = ok := by
      have h3 := g.2.1
      cases ok with
      | true => exact decide_eq_true (h3.2 ⟨rfl, fun q _ => by simp⟩)
      | false => exact decide_eq_false (fun h4 => absurd (h3.1 h4).1 (by decide))
    have h1 : Ev (fun k => spec_l07Count.f k y.f0 y.f1 y.f2 y.f3 0 (⟨#[]⟩ : ByteArray) 40) cn := h1
    have h2 : Ev (fun k => impl_mapPairs.pairs k y.f0 y.f1 y.f2 y.f3 (-1) 40) (out, ok, room') := h2
    have s1 : Ev (fun k => if (false : Bool) = true then some true else (spec_l07Count.f k y.f0 y.f1 y.f2 y.f3 0 (⟨#[]⟩ : ByteArray) 40).bind fun t111 => some (decide (t111 > 0))) ok := ev_if_neg (by decide) (ev_bind h1 (by rw [hd]; exact ev_some _))
    have s2 : Ev (fun k => if (false : Bool) = true then some (([] : List S51), true) else (impl_mapPairs.pairs k y.f0 y.f1 y.f2 y.f3 (-1) 40).bind fun t => some (t.1, t.2.1)) (out, ok) := ev_if_neg (by decide) (ev_bind h2 (ev_some _))
    cases ok with
    | false => exact ⟨[], 1, by simp, ev_bind s1 (ev_if_neg (by decide) (ev_some _)), ev_bind s2 (ev_if_neg (by simp) (ev_some _))⟩
    | true =>
      obtain ⟨k, h3⟩ := h2
      obtain ⟨g0, g1, g2⟩ := wl_of_pairs k y (-1) 40 out room' (by omega) (by omega) (h3 k (Nat.le_refl _))
      have hl : out.length ≤ 40 := by omega
      have l1 := list_ev y _ g0 [] (by rw [List.length_map]; simp only [List.length_nil]; omega)
      rw [List.nil_append] at l1
      have l2 := mapl_from out (by omega) out.length 0 (by omega)
      exact ⟨out.map cm, 0, by rw [List.length_map]; exact hl, ev_bind s1 (ev_if_pos rfl (ev_bind l1 (ev_some _))), ev_bind s2 (ev_if_pos rfl l2)⟩

/-- Each number has a mark. -/
theorem markText_from (n : Nat) : ∀ (x : Int) (acc : ByteArray), x.toNat ≤ n → acc.size + n ≤ 4000000000 → ∃ t : ByteArray, Ev (fun k => laws_markText.l0 k x acc) t := by
  induction n with
  | zero =>
    intro x acc hx ha
    refine ⟨(⟨#[109]⟩ : ByteArray) ++ acc, ev_succ ?_⟩
    simp only [laws_markText.l0]
    exact ev_if_neg (by omega) (ev_if_pos (by omega) (ev_some _))
  | succ n ih =>
    intro x acc hx ha
    by_cases hp : x > 0
    · have hw : Aside0 (wrap64 (Int.tdiv x 10) = x / 10 ∨ ¬ x ≤ 9223372036854775807) := ⟨by
        rw [Int.tdiv_eq_ediv_of_nonneg (by omega)]
        by_cases h : x ≤ 9223372036854775807
        · exact .inl (wrap_in (by omega) (by omega))
        · exact .inr h⟩
      rcases hw.out with hq | hq
      · have hsz : (strOfNums [(wrap64 (48 + (Int.tmod x 10))) % 256]).size = 1 := size_strOfNums _
        obtain ⟨t, ht⟩ := ih (x / 10) (strOfNums [(wrap64 (48 + (Int.tmod x 10))) % 256] ++ acc) (by omega) (by rw [ByteArray.size_append, hsz]; omega)
        refine ⟨t, ev_succ ?_⟩
        simp only [laws_markText.l0, Option.bind_some, hq]
        exact ev_if_pos hp (ev_if_pos (by omega) ht)
      · exfalso; omega
    · refine ⟨(⟨#[109]⟩ : ByteArray) ++ acc, ev_succ ?_⟩
      simp only [laws_markText.l0]
      exact ev_if_neg hp (ev_if_pos (by omega) (ev_some _))
theorem markText_ex (x : Int) (hx : x ≤ 1000000000) : ∃ t : ByteArray, Ev (fun k => laws_markText.f k x) t := by
  unfold laws_markText.f
  by_cases h : x ≤ 0
  · exact ⟨_, ev_if_pos h (ev_some _)⟩
  · obtain ⟨t, ht⟩ := markText_from x.toNat x ⟨#[]⟩ (by omega) (by show 0 + _ ≤ _; omega)
    exact ⟨t, ev_if_neg h ht⟩
open Classical in
noncomputable def markT (x : Int) : ByteArray := if h : ∃ t : ByteArray, Ev (fun k => laws_markText.f k x) t then h.choose else ⟨#[]⟩
theorem markText_ev (x : Int) (hx : x ≤ 1000000000) : Ev (fun k => laws_markText.f k x) (markT x) := by
  unfold markT
  rw [dif_pos (markText_ex x hx)]
  exact (markText_ex x hx).choose_spec

/-- The marks of a tree grow by three a node. -/
theorem markTree_in (l : List S29) (n : Nat) (h : Cnt29 l n) : ∀ a : Int, 0 ≤ a → a + 3 * (n : Int) ≤ 1000000000 → Ev (fun k => laws_markBranchS.l (laws_markText.f k) (laws_markBranchS.f k) l a) (a + 3 * (n : Int)) := by
  induction h with
  | nil =>
    intro a h0 h1
    refine ev_of_eq fun k => ?_
    rw [laws_markBranchS.l]
    exact congrArg some (by omega)
  | cons x r n m _ _ ih1 ih2 =>
    intro a h0 h1
    have w1 : Aside0 (wrap64 (a + 1) = a + 1) := ⟨wrap_in (by omega) (by omega)⟩
    have w2 : Aside0 (wrap64 (a + 1 + 1) = a + 2) := ⟨(wrap_in (by omega) (by omega)).trans (by omega)⟩
    have w3 : Aside0 (wrap64 (a + 2 + 1) = a + 3) := ⟨(wrap_in (by omega) (by omega)).trans (by omega)⟩
    have e : a + 3 * ((1 + n + m : Nat) : Int) = (a + 3 + 3 * (n : Int)) + 3 * (m : Int) := by omega
    rw [e]
    have h2 := ih1 (a + 3) (by omega) (by omega)
    have h3 := ih2 (a + 3 + 3 * (n : Int)) (by omega) (by omega)
    have h4 : Ev (fun k => laws_markBranchS.f k x.f3 (a + 3)) (a + 3 + 3 * (n : Int)) := ev_succ h2
    have h5 : Ev (fun k => (laws_markText.f k a).bind fun _ => (laws_markText.f k (a + 1)).bind fun _ => (laws_markBranchS.f k x.f3 (a + 3)).bind fun b => laws_markBranchS.l (laws_markText.f k) (laws_markBranchS.f k) r b) ((a + 3 + 3 * (n : Int)) + 3 * (m : Int)) :=
      ev_bind (markText_ev a (by omega)) (ev_bind (markText_ev (a + 1) (by omega)) (ev_bind h4 h3))
    refine ev_congr (fun k => ?_) h5
    rw [laws_markBranchS.l, w1.out, w2.out, w3.out]
theorem markTree_ev (l : List S29) (n : Nat) (h : Cnt29 l n) (a : Int) (h0 : 0 ≤ a) (h1 : a + 3 * (n : Int) ≤ 1000000000) : Ev (fun k => laws_markBranchS.f k l a) (a + 3 * (n : Int)) := ev_succ (markTree_in l n h a h0 h1)


/-- What the marks of commands are. -/
noncomputable def markC (i : Nat) : S53 := ⟨5 * (i : Int) + 1, 5 * (i : Int) + 2, 5 * (i : Int) + 3, markT (5 * (i : Int) + 4), markT (5 * (i : Int) + 5)⟩
noncomputable def marksC (n : Nat) : List S53 := (List.range n).map markC
theorem marksC_length (n : Nat) : (marksC n).length = n := by simp [marksC]
theorem marksC_get (n i : Nat) (h : i < n) : (marksC n).getD i z53 = markC i := by
  unfold marksC
  rw [List.getD_eq_getElem?_getD, List.getElem?_map, List.getElem?_range h]
  rfl
theorem marksC_rd (n i : Nat) (h : i < n) : rd_T53 (marksC n) (i : Int) = markC i := by
  unfold rd_T53
  rw [Int.toNat_natCast]
  exact marksC_get n i h
theorem rdC_get (x : List S53) (i : Nat) (h : i < x.length) (v : S53) : rd_T53 (x.set i v) (i : Int) = v := by
  unfold rd_T53
  rw [Int.toNat_natCast, List.getD_eq_getElem?_getD, List.getElem?_set_self h, Option.getD_some]
theorem wraps5 (a : Int) (h0 : 0 ≤ a) (h1 : a ≤ 1000000000) : Aside0 (wrap64 (a + 1) = a + 1) ∧ Aside0 (wrap64 (a + 1 + 1) = a + 2) ∧ Aside0 (wrap64 (a + 2 + 1) = a + 3) ∧ Aside0 (wrap64 (a + 3 + 1) = a + 4) ∧ Aside0 (wrap64 (a + 4 + 1) = a + 5) :=
  ⟨⟨wrap_in (by omega) (by omega)⟩, ⟨(wrap_in (by omega) (by omega)).trans (by omega)⟩, ⟨(wrap_in (by omega) (by omega)).trans (by omega)⟩, ⟨(wrap_in (by omega) (by omega)).trans (by omega)⟩, ⟨(wrap_in (by omega) (by omega)).trans (by omega)⟩⟩
theorem markC_form (i : Nat) : markC i = ⟨5 * (i : Int) + 1, 5 * (i : Int) + 1 + 1, 5 * (i : Int) + 1 + 2, markT (5 * (i : Int) + 1 + 3), markT (5 * (i : Int) + 1 + 4)⟩ := by
  have m5 : 5 * (i : Int) + 1 + 4 = 5 * (i : Int) + 5 := by omega
  have m4 : 5 * (i : Int) + 1 + 3 = 5 * (i : Int) + 4 := by omega
  have m3 : 5 * (i : Int) + 1 + 2 = 5 * (i : Int) + 3 := by omega
  have m2 : 5 * (i : Int) + 1 + 1 = 5 * (i : Int) + 2 := by omega
  rw [m5, m4, m3, m2]
  rfl
theorem markCommandS_from (n d : Nat) (hn : n ≤ 1000000) : ∀ (i : Nat) (x : List S53), i + d = n → x.length = n → (∀ j, j < i → x[j]? = (marksC n)[j]?) → Ev (fun k => laws_markCommandS.l0 k x (5 * (i : Int) + 1) (i : Int)) (5 * (n : Int) + 1, marksC n) := by
  have hml := marksC_length n
  induction d with
  | zero =>
    intro i x hi hx h
    refine ev_succ ?_
    simp only [laws_markCommandS.l0]
    rw [show x = marksC n from copy_end (marksC n) x (by rw [hml]; exact hx) (fun j hj => h j (by rw [hml] at hj; omega)), show (i : Int) = (n : Int) from by omega]
    exact ev_if_neg (by rw [hml]; omega) (ev_some _)
  | succ d ih =>
    intro i x hi hx h
    have hget := marksC_get n i (by omega)
    obtain ⟨hs1, hs2⟩ := copy_step (marksC n) x i z53 (by rw [hml]; exact hx) (by rw [hml]; omega) h
    rw [hget] at hs1 hs2
    rw [hml] at hs1
    have := ih (i + 1) (x.set i (markC i)) (by omega) hs1 hs2
    obtain ⟨w1, w2, w3, w4, w5⟩ := wraps5 (5 * (i : Int) + 1) (by omega) (by omega)
    have w6 : Aside0 (wrap64 ((i : Int) + 1) = ((i + 1 : Nat) : Int)) := ⟨by rw [wrap_in (by omega) (by omega)]; omega⟩
    have e1 : 5 * ((i + 1 : Nat) : Int) + 1 = 5 * (i : Int) + 1 + 5 := by omega
    rw [e1, markC_form] at this
    have b1 : 5 * (i : Int) + 1 + 4 ≤ 1000000000 := by omega
    have hlt : (i : Int) < (x.length : Int) := by omega
    have hi0 : (0 : Int) ≤ (i : Int) := by omega
    have hxi : i < x.length := by omega
    clear e1 hget hs1 hs2 ih h hml hi hx
    generalize 5 * (i : Int) + 1 = a at w1 w2 w3 w4 w5 b1 this ⊢
    refine ev_succ ?_
    simp only [laws_markCommandS.l0, w1.out, w2.out, w3.out, w4.out, w5.out, w6.out, Int.toNat_natCast, Option.bind_some, rdC_get x i hxi, List.set_set]
    exact ev_if_pos hlt (ev_if_pos hi0 (ev_bind (markText_ev _ (by omega)) (ev_bind (markText_ev _ (by omega)) this)))
theorem markCommandS_ev (l : List S53) (hl : l.length ≤ 1000000) : Ev (fun k => laws_markCommandS.f k l 1) (5 * (l.length : Int) + 1, marksC l.length) := by
  unfold laws_markCommandS.f
  exact markCommandS_from l.length l.length hl 0 l (by omega) rfl (fun j hj => absurd hj (by omega))
theorem heldCommandS_from (n d : Nat) (hn : n ≤ 1000000) : ∀ i : Nat, i + d = n → Ev (fun k => laws_heldCommandS.l0 k (marksC n) (5 * (i : Int) + 1) (i : Int)) (5 * (n : Int) + 1) := by
  have hml := marksC_length n
  induction d with
  | zero =>
    intro i hi
    refine ev_succ ?_
    simp only [laws_heldCommandS.l0]
    rw [show (i : Int) = (n : Int) from by omega]
    exact ev_if_neg (by rw [hml]; omega) (ev_some _)
  | succ d ih =>
    intro i hi
    have := ih (i + 1) (by omega)
    have hrd := (marksC_rd n i (by omega)).trans (markC_form i)
    obtain ⟨w1, w2, w3, w4, w5⟩ := wraps5 (5 * (i : Int) + 1) (by omega) (by omega)
    have w6 : Aside0 (wrap64 ((i : Int) + 1) = ((i + 1 : Nat) : Int)) := ⟨by rw [wrap_in (by omega) (by omega)]; omega⟩
    have e1 : 5 * ((i + 1 : Nat) : Int) + 1 = 5 * (i : Int) + 1 + 5 := by omega
    rw [e1] at this
    have b1 : 5 * (i : Int) + 1 + 4 ≤ 1000000000 := by omega
    have hlt : (i : Int) < ((marksC n).length : Int) := by rw [hml]; omega
    have hi0 : (0 : Int) ≤ (i : Int) := by omega
    clear e1 ih hi
    generalize 5 * (i : Int) + 1 = a at w1 w2 w3 w4 w5 b1 this hrd ⊢
    refine ev_succ ?_
    simp only [laws_heldCommandS.l0, w1.out, w2.out, w3.out, w4.out, w5.out, w6.out, hrd]
    exact ev_if_pos hlt (ev_if_pos hi0 (ev_if_pos (by first | rfl | trivial) (ev_if_pos (by first | rfl | trivial) (ev_if_pos (by first | rfl | trivial) (ev_bind (markText_ev _ (by omega)) (ev_if_pos (by first | rfl | trivial) (ev_bind (markText_ev _ (by omega)) (ev_if_pos (by first | rfl | trivial) this))))))))
theorem heldCommandS_ev (n : Nat) (hn : n ≤ 1000000) : Ev (fun k => laws_heldCommandS.f k (marksC n) 1) (5 * (n : Int) + 1) := by
  unfold laws_heldCommandS.f
  exact heldCommandS_from n n hn 0 (by omega)

theorem eqCommand_same (a0) (a1) (a2) (a3) (a4) : laws_eqCommand.f a0 a1 a2 a3 a4 a0 a1 a2 a3 a4 = some true := by
  unfold laws_eqCommand.f
  repeat' split
  all_goals first | rfl | (exfalso; simp_all)
theorem eqCommandS_ev (l : List S53) (hl : l.length ≤ 1048576) : Ev (fun k => laws_eqCommandS.f k l l) true := by
  have key := ev_loop (fun k (i : Int) => laws_eqCommandS.l0 k l l i) (fun i => 0 ≤ i ∧ i ≤ l.length) (fun i => l.length - i.toNat) (fun _ => true) (by
    rintro i ⟨h0, h1⟩
    by_cases hi : i < (l.length : Int)
    · right
      refine ⟨i + 1, ⟨by omega, by omega⟩, by omega, rfl, 0, fun j _ => ?_⟩
      simp only [laws_eqCommandS.l0, eqCommand_same, Option.bind_some]
      rw [if_pos hi, if_pos h0, if_pos hi, if_pos trivial, wrap_in (by omega) (by omega)]
    · left
      refine ⟨0, fun j _ => ?_⟩
      simp only [laws_eqCommandS.l0]
      rw [if_neg hi])
  refine ev_congr (fun k => ?_) (key 0 ⟨by omega, by omega⟩)
  unfold laws_eqCommandS.f
  rw [if_pos rfl]

theorem FnExactMapList : laws_FnExactMapList.Pure := by
  intro a b c l ha hb hc hl
  obtain ⟨s, hs, hq⟩ := sz_of (⟨a, b, c, l⟩ : S24) ha hb hl.1 (fun y hy => sz_all y (hl.2 y hy)) 1048576 (by omega) (by omega)
  refine Ev.rounds (r := true) ?_
  unfold laws_FnExactMapList.f
  refine ev_bind hs ?_
  rcases hq with hq | ⟨q0, _, ⟨y, ht, hy, hc⟩, n, hn, hn2⟩
  · exact ev_if_pos (by omega) (ev_some _)
  · refine ev_if_neg (by omega) ?_
    obtain ⟨r, c0, hr, h1, h2⟩ := lists_same y
    have he := eqCommandS_ev r (by omega)
    have hm := markCommandS_ev r (by omega)
    have hh := heldCommandS_ev r.length (by omega)
    have hb := markTree_ev y.f3 n (hc n hn) 1 (by omega) (by omega)
    refine ev_bind ht (ev_bind h1 (ev_bind ht (ev_bind h2 (ev_bind he (ev_if_pos rfl (ev_if_pos rfl (ev_bind ht (ev_bind hy (ev_if_pos rfl (ev_bind (g := fun k => laws_markBranch.f k y.f0 y.f1 y.f2 y.f3 1) hb (ev_if_neg (by omega) (ev_bind he (ev_if_pos rfl (ev_bind hm (ev_bind hh (ev_if_neg (by omega) (ev_if_pos rfl ?_)))))))))))))))))
    exact ev_bind ht (ev_bind h2 (ev_bind he (ev_if_pos rfl (ev_if_pos rfl (ev_bind hh (ev_if_neg (by omega) (ev_if_pos rfl (ev_some _))))))))
end Go.Proofs.Ytjkdmegpjdfcaaa.Pure
