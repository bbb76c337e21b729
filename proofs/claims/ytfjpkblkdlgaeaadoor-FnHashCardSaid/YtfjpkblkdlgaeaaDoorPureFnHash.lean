/- Hashes, their text and bits, and the check, told again: the plain form. No conditions. -/
import Derived.Test.YtfjpkblkdlgaeaaDoorPFnHashx4
import Derived.Test.YtfjpkblkdlgaeaaDoorU
import Derived.Laws.BitsAllLaws
import Derived.Laws.BitsLemmas
namespace Go.Proofs.YtfjpkblkdlgaeaaDoor.Pure
open Go.RowKit Go.Proofs.YtfjpkblkdlgaeaaDoor.PFnHash Go.Proofs.YtfjpkblkdlgaeaaDoorW.PrintWords Go.Proofs.YtfjpkblkdlgaeaaDoorW.PrintLast Go.Proofs.YtfjpkblkdlgaeaaDoorW.PrintMore Go.Proofs.YtfjpkblkdlgaeaaDoor.U
set_option linter.unusedVariables false
set_option linter.unusedSimpArgs false
/-- The worth of a digit of base 16, or -1. -/
def nib (c : Int) : Int := if 48 ≤ c ∧ c ≤ 57 then c - 48 else if 97 ≤ c ∧ c ≤ 102 then c - 87 else -1
def hexL : List UInt8 := [48, 49, 50, 51, 52, 53, 54, 55, 56, 57, 97, 98, 99, 100, 101, 102]
theorem nib_range (c : Int) : -1 ≤ nib c ∧ nib c < 16 := by unfold nib; split <;> (try split) <;> omega
theorem index_all : ∀ n : Fin 256, Lib.indexByte hexL (n.val.toUInt8) = nib (n.val : Int) := by decide +kernel
theorem contains_all : ∀ n : Fin 256, hexL.contains (n.val.toUInt8) = decide (0 ≤ nib (n.val : Int)) := by decide +kernel
theorem index_nib (c : Int) (h0 : 0 ≤ c) (h1 : c < 256) : strings_IndexByte.f (⟨#[48, 49, 50, 51, 52, 53, 54, 55, 56, 57, 97, 98, 99, 100, 101, 102]⟩ : ByteArray) c = some (nib c) := by
  obtain ⟨n, rfl⟩ := Int.eq_ofNat_of_zero_le h0
  have h := index_all ⟨n, by omega⟩
  unfold strings_IndexByte.f
  rw [Int.toNat_natCast]
  exact congrArg some h
theorem contains_nib (b : UInt8) : hexL.contains b = decide (0 ≤ nib (b.toNat : Int)) := by
  have h := contains_all ⟨b.toNat, b.toNat_lt⟩
  have hb : b.toNat.toUInt8 = b := by show UInt8.ofNat b.toNat = b; simp
  rw [hb] at h
  exact h
theorem mem_tw (p : UInt8 → Bool) (l : List UInt8) : ∀ x ∈ l.takeWhile p, p x = true := by
  induction l with
  | nil => intro x hx; simp at hx
  | cons a l ih =>
    intro x hx
    rw [List.takeWhile_cons] at hx
    split at hx
    · rcases List.mem_cons.1 hx with rfl | h
      · assumption
      · exact ih x h
    · simp at hx
theorem dw_nil (p : UInt8 → Bool) (l : List UInt8) : l.dropWhile p = [] ↔ ∀ x ∈ l, p x = true := by
  induction l with
  | nil => exact ⟨fun _ x hx => by simp at hx, fun _ => rfl⟩
  | cons a l ih =>
    rw [List.dropWhile_cons]
    by_cases h : p a = true
    · rw [if_pos h, ih]
      exact ⟨fun g x hx => by
        rcases List.mem_cons.1 hx with rfl | h2
        · exact h
        · exact g x h2, fun g x hx => g x (List.mem_cons_of_mem _ hx)⟩
    · rw [if_neg h]
      exact ⟨fun g => by simp at g, fun g => absurd (g a List.mem_cons_self) h⟩
theorem trim_nil (l cs : List UInt8) : Lib.trimS l cs = [] ↔ ∀ b ∈ l, cs.contains b = true := by
  unfold Lib.trimS Lib.trimLeftS Lib.trimRightS
  rw [dw_nil]
  constructor
  · intro h b hb
    have h1 : b ∈ l.reverse := List.mem_reverse.2 hb
    rw [← List.takeWhile_append_dropWhile (p := fun x => cs.contains x) (l := l.reverse)] at h1
    rcases List.mem_append.1 h1 with h2 | h2
    · exact mem_tw _ _ b h2
    · exact h b (List.mem_reverse.2 h2)
  · intro h b hb
    have h1 := List.mem_reverse.1 hb
    have h2 : b ∈ l.reverse := (List.dropWhile_sublist _).mem h1
    exact h b (List.mem_reverse.1 h2)
/-- So many pairs of digits from a place on. -/
def pairs (s : ByteArray) : Nat → Nat → List Int
  | 0, _ => []
  | d + 1, i => ((16 * nib (bt s (i : Int)) + nib (bt s ((i + 1 : Nat) : Int))) % 256) :: pairs s d (i + 2)
def digits (s : ByteArray) : Nat → Nat → Prop
  | 0, _ => True
  | d + 1, i => 0 ≤ nib (bt s (i : Int)) ∧ 0 ≤ nib (bt s ((i + 1 : Nat) : Int)) ∧ digits s d (i + 2)
theorem digits_iff (s : ByteArray) (d : Nat) : ∀ i : Nat, digits s d i ↔ ∀ j, i ≤ j → j < i + 2 * d → 0 ≤ nib (bt s (j : Int)) := by
  induction d with
  | zero => intro i; exact ⟨fun _ j h1 h2 => absurd h2 (by omega), fun _ => trivial⟩
  | succ d ih =>
    intro i
    unfold digits
    rw [ih (i + 2)]
    constructor
    · rintro ⟨h1, h2, h3⟩ j g1 g2
      by_cases e1 : j = i
      · subst e1; exact h1
      · by_cases e2 : j = i + 1
        · subst e2; exact h2
        · exact h3 j (by omega) (by omega)
    · intro h
      exact ⟨h i (by omega) (by omega), h (i + 1) (by omega) (by omega), fun j g1 g2 => h j (by omega) (by omega)⟩
theorem step_wraps (i : Nat) (hi : i ≤ 64) (a b : Int) (ha : -1 ≤ a ∧ a < 16) (hb : -1 ≤ b ∧ b < 16) :
    wrap64 ((i : Int) + 1) = ((i + 1 : Nat) : Int) ∧ wrap64 ((i : Int) + 2) = ((i + 2 : Nat) : Int) ∧ wrap64 (wrap64 (16 * a) + b) = 16 * a + b ∧ wrap64 (wrap64 (a * 16) + b) = 16 * a + b :=
  ⟨(wrap_in (by omega) (by omega)).trans (by omega), (wrap_in (by omega) (by omega)).trans (by omega), by rw [wrap_in (x := 16 * a) (by omega) (by omega), wrap_in (by omega) (by omega)],
    by rw [wrap_in (x := a * 16) (by omega) (by omega), wrap_in (by omega) (by omega)]; omega⟩
theorem impl_digits (s : ByteArray) (hs : s.size = 64) (d : Nat) : ∀ (i : Nat) (acc : List Int), i + 2 * d = 64 → acc.length ≤ i → Ev (fun k => impl_readHash.l0 k s acc (i : Int)) (strOfNums (acc ++ pairs s d i), true) := by
  induction d with
  | zero =>
    intro i acc hi ha
    refine ev_succ ?_
    rw [pairs, List.append_nil]
    simp only [impl_readHash.l0]
    exact ev_if_neg (by omega) (ev_some _)
  | succ d ih =>
    intro i acc hi ha
    have b0 := bt_range s (i : Int)
    have b1 := bt_range s ((i + 1 : Nat) : Int)
    have n0 := index_nib _ b0.1 (by omega)
    have n1 := index_nib _ b1.1 (by omega)
    have hW := Aside0.mk (step_wraps i (by omega) _ _ (nib_range (bt s (i : Int))) (nib_range (bt s ((i + 1 : Nat) : Int))))
    have e := ih (i + 2) (acc ++ [(16 * nib (bt s (i : Int)) + nib (bt s ((i + 1 : Nat) : Int))) % 256]) (by omega) (by rw [List.length_append, List.length_singleton]; omega)
    have he : acc ++ pairs s (d + 1) i = acc ++ [(16 * nib (bt s (i : Int)) + nib (bt s ((i + 1 : Nat) : Int))) % 256] ++ pairs s d (i + 2) := by rw [pairs, List.append_assoc]; rfl
    rw [← he] at e
    refine ev_succ ?_
    simp only [impl_readHash.l0, hW.out.1, hW.out.2.1, n0, n1, Option.bind_some, hW.out.2.2.2]
    exact ev_if_pos (by omega) (ev_if_pos (by omega) (ev_if_pos (by omega) (ev_if_pos (by omega) (ev_if_pos (by omega) e))))
theorem trim_digits (s : ByteArray) (hs : s.size = 64) : Lib.trimS s.data.toList hexL = [] ↔ digits s 32 0 := by
  rw [trim_nil, digits_iff]
  have hl : s.data.toList.length = 64 := by rw [Array.length_toList]; exact hs
  constructor
  · intro h j _ hj
    have hjs : j < s.size := by omega
    have hm : s[j] ∈ s.data.toList := by
      show s.data[j] ∈ s.data.toList
      exact Array.mem_toList_iff.2 (Array.getElem_mem _)
    have h1 := h _ hm
    rw [contains_nib, decide_eq_true_iff] at h1
    have h2 := bt_at s (j : Int) (by rw [Int.toNat_natCast]; exact hjs)
    rw [← h2]
    exact h1
  · intro h b hb
    obtain ⟨j, hj, rfl⟩ := List.mem_iff_getElem.1 hb
    have hjs : j < s.size := by omega
    have h1 := h j (by omega) (by omega)
    rw [← bt_at s (j : Int) (by rw [Int.toNat_natCast]; exact hjs)] at h1
    rw [contains_nib, decide_eq_true_iff]
    exact h1
/-- What a drawn source is: how far it has been read, and a seed. -/
def SrcOK (c : List Int) (a b : Int) (n : Nat) : Prop := 0 ≤ a ∧ a ≤ (n : Int) ∧ 0 ≤ b ∧ b < 2147483648
/-- One more byte. -/
theorem byte_src (c : List Int) (hc : ∀ x ∈ c, 0 ≤ x ∧ x < 256) (a b : Int) (n : Nat) (hn : n ≤ 10000) (h : SrcOK c a b n) : ∃ r a' b', spec_l00Src_byte.f c a b = some (r, a', b') ∧ 0 ≤ r ∧ r < 256 ∧ SrcOK c a' b' (n + 1) := by
  obtain ⟨h1, h2, h3, h4⟩ := h
  unfold spec_l00Src_byte.f
  rw [if_pos ⟨h1, by omega, h3, h4⟩]
  by_cases g : a + 1 ≤ (c.length : Int)
  · have hr : 0 ≤ rd c a ∧ rd c a < 256 := by
      obtain ⟨i, rfl⟩ := Int.eq_ofNat_of_zero_le h1
      unfold rd
      rw [Int.toNat_natCast, List.getD_eq_getElem?_getD, List.getElem?_eq_getElem (by omega), Option.getD_some]
      exact hc _ (List.getElem_mem _)
    rw [if_pos g, if_pos hr]
    exact ⟨_, _, _, rfl, hr.1, hr.2, by omega, by omega, by omega, by omega⟩
  · rw [if_neg g]
    by_cases g2 : 3000 < a + 1
    · rw [if_pos g2]
      exact ⟨_, _, _, rfl, by omega, by omega, by omega, by omega, h3, h4⟩
    · rw [if_neg g2]
      exact ⟨_, _, _, rfl, by omega, by omega, by omega, by omega, by omega, by omega⟩
/-- One of 0 to m - 1. -/
theorem next_src (c : List Int) (hc : ∀ x ∈ c, 0 ≤ x ∧ x < 256) (a b : Int) (n : Nat) (hn : n ≤ 9000) (m : Int) (hm1 : 1 ≤ m) (hm : m ≤ 256) (h : SrcOK c a b n) : ∃ r a' b', spec_l00Src_next.f c a b m = some (r, a', b') ∧ 0 ≤ r ∧ r < m ∧ SrcOK c a' b' (n + 1) := by
  unfold spec_l00Src_next.f
  by_cases g : m ≤ 1
  · rw [if_pos g]
    obtain ⟨h1, h2, h3, h4⟩ := h
    exact ⟨0, a, b, rfl, Int.le_refl _, by omega, h1, by omega, h3, h4⟩
  · rw [if_neg g, if_pos hm]
    obtain ⟨r, a', b', e, r0, r1, h'⟩ := byte_src c hc a b n (by omega) h
    rw [e]
    simp only [Option.bind_some]
    rw [if_neg (by omega)]
    have ht : Int.tmod r m = r % m := Int.tmod_eq_emod_of_nonneg r0
    rw [ht]
    exact ⟨_, _, _, rfl, Int.emod_nonneg _ (by omega), Int.emod_lt_of_pos _ (by omega), h'⟩
theorem src_new (c : List Int) : SrcOK c 0 ((c.length : Int) % 1000) 0 := by
  generalize (c.length : Int) = q
  have h1 := Int.emod_nonneg q (b := 1000) (by omega)
  have h2 := Int.emod_lt_of_pos q (b := 1000) (by omega)
  generalize q % 1000 = z at h1 h2 ⊢
  exact ⟨Int.le_refl _, Int.le_refl _, h1, by omega⟩
theorem source_some (c : List Int) : ∃ z, spec_l00Source.f c = some (c, 0, z) ∧ SrcOK c 0 z 0 := ⟨_, rfl, src_new c⟩

/-- One halving of the register. -/
def crcH (x : Nat) : Nat := if x % 2 = 1 then (x / 2) ^^^ 3988292384 else x / 2
def crc8 : Nat → Nat → Nat
  | 0, x => x
  | n + 1, x => crc8 n (crcH x)
def crcL : Nat → List Int → Nat
  | x, [] => x
  | x, b :: l => crcL (crc8 8 (x ^^^ b.toNat)) l
theorem crcH_lt {x : Nat} (h : x < 4294967296) : crcH x < 4294967296 := by
  unfold crcH
  split
  · exact Nat.xor_lt_two_pow (n := 32) (by omega) (by omega)
  · omega
theorem crc8_lt (n : Nat) : ∀ {x : Nat}, x < 4294967296 → crc8 n x < 4294967296 := by
  induction n with
  | zero => intro x h; exact h
  | succ n ih => intro x h; exact ih (crcH_lt h)
theorem spec_half (k : Nat) (l : List Int) (x : Nat) (hx : x < 4294967296) (i j : Int) (hj : 0 ≤ j ∧ j < 8) : spec_l01Check.l1 (k + 1) l (x : Int) i j = spec_l01Check.l1 k l ((crcH x : Nat) : Int) i (j + 1) := by
  simp only [spec_l01Check.l1]
  rw [if_pos hj.2, wrap_in (x := j + 1) (by omega) (by omega), Int.tmod_eq_emod_of_nonneg (by omega), Int.tdiv_eq_ediv_of_nonneg (by omega), wrap_in (x := (x : Int) / 2) (by omega) (by omega)]
  unfold crcH
  by_cases h : x % 2 = 1
  · rw [if_pos (by omega), if_pos h, i64_xor _ _ (by omega) (by omega) (by omega) (by omega)]
    rfl
  · rw [if_neg (by omega), if_neg h]
    rfl
theorem impl_half (k : Nat) (s : ByteArray) (x : Nat) (hx : x < 4294967296) (n i j : Int) (hj : 0 ≤ j ∧ j < 8) : impl_check32.l1 (k + 1) s (x : Int) n i j = impl_check32.l1 k s ((crcH x : Nat) : Int) n i (j + 1) := by
  simp only [impl_check32.l1]
  rw [if_pos hj.2, wrap_in (x := j + 1) (by omega) (by omega), u32_and _ _ (by omega) (by omega) (by omega) (by omega), Int.toNat_natCast, show Int.toNat 1 = 1 from rfl, nat_mask1]
  unfold crcH
  by_cases h : x % 2 = 1
  · rw [if_pos (by omega), if_pos h, u32_xor _ _ (by omega) (by omega) (by omega) (by omega)]
    rfl
  · rw [if_neg (by omega), if_neg h]
    rfl
theorem spec_halves (l : List Int) (i : Int) (n : Nat) : ∀ (k x : Nat) (j : Int), x < 4294967296 → 0 ≤ j → j + n = 8 → spec_l01Check.l1 (k + n + 1) l (x : Int) i j = spec_l01Check.l0 k l ((crc8 n x : Nat) : Int) (wrap64 (i + 1)) := by
  induction n with
  | zero =>
    intro k x j hx h0 h8
    simp only [spec_l01Check.l1]
    rw [if_neg (by omega)]
    rfl
  | succ n ih =>
    intro k x j hx h0 h8
    rw [show k + (n + 1) + 1 = (k + n + 1) + 1 from by omega, spec_half _ l x hx i j ⟨h0, by omega⟩]
    exact ih k (crcH x) (j + 1) (crcH_lt hx) (by omega) (by omega)
theorem impl_halves (s : ByteArray) (m i : Int) (n : Nat) : ∀ (k x : Nat) (j : Int), x < 4294967296 → 0 ≤ j → j + n = 8 → impl_check32.l1 (k + n + 1) s (x : Int) m i j = impl_check32.l0 k s ((crc8 n x : Nat) : Int) m (wrap64 (i + 1)) := by
  induction n with
  | zero =>
    intro k x j hx h0 h8
    simp only [impl_check32.l1]
    rw [if_neg (by omega)]
    rfl
  | succ n ih =>
    intro k x j hx h0 h8
    rw [show k + (n + 1) + 1 = (k + n + 1) + 1 from by omega, impl_half _ s x hx m i j ⟨h0, by omega⟩]
    exact ih k (crcH x) (j + 1) (crcH_lt hx) (by omega) (by omega)
theorem rd_drop (l : List Int) (i : Nat) (hi : i < l.length) : l.drop i = rd l (i : Int) :: l.drop (i + 1) := by
  unfold rd
  rw [Int.toNat_natCast, List.getD_eq_getElem?_getD, List.getElem?_eq_getElem hi, Option.getD_some]
  exact List.drop_eq_getElem_cons hi
theorem rd_byte (l : List Int) (hb : ∀ x ∈ l, 0 ≤ x ∧ x < 256) (i : Nat) (hi : i < l.length) : 0 ≤ rd l (i : Int) ∧ rd l (i : Int) < 256 := by
  unfold rd
  rw [Int.toNat_natCast, List.getD_eq_getElem?_getD, List.getElem?_eq_getElem hi, Option.getD_some]
  exact hb _ (List.getElem_mem hi)
theorem spec_from (l : List Int) (hb : ∀ x ∈ l, 0 ≤ x ∧ x < 256) (hl : l.length ≤ 1048576) (d : Nat) : ∀ (i x : Nat), i + d = l.length → x < 4294967296 → Ev (fun k => spec_l01Check.l0 k l (x : Int) (i : Int)) (((crcL x (l.drop i)) ^^^ 4294967295 : Nat) : Int) := by
  induction d with
  | zero =>
    intro i x hi hx
    refine ev_succ (ev_of_eq fun k => ?_)
    simp only [spec_l01Check.l0]
    rw [if_neg (by omega), i64_xor _ _ (by omega) (by omega) (by omega) (by omega), List.drop_eq_nil_of_le (by omega)]
    rfl
  | succ d ih =>
    intro i x hi hx
    have hlt : i < l.length := by omega
    have hr := rd_byte l hb i hlt
    obtain ⟨b, hbe⟩ := Int.eq_ofNat_of_zero_le hr.1
    have hb256 : b < 256 := by omega
    have hx2 : x ^^^ b < 4294967296 := Nat.xor_lt_two_pow (n := 32) (by omega) (by omega)
    rw [rd_drop l i hlt, hbe]
    show Ev _ (((crcL (crc8 8 (x ^^^ b)) (l.drop (i + 1))) ^^^ 4294967295 : Nat) : Int)
    obtain ⟨K, hK⟩ := ih (i + 1) (crc8 8 (x ^^^ b)) (by omega) (crc8_lt 8 hx2)
    refine ⟨K + 10, fun k hk => ?_⟩
    obtain ⟨m, rfl⟩ : ∃ m, k = (m + 8 + 1) + 1 := ⟨k - 10, by omega⟩
    show spec_l01Check.l0 ((m + 8 + 1) + 1) l (x : Int) (i : Int) = _
    simp only [spec_l01Check.l0]
    rw [if_pos (by omega), if_pos (by omega), hbe, wrap_in (by omega) (by omega), i64_xor _ _ (by omega) (by omega) (by omega) (by omega)]
    have := spec_halves l (i : Int) 8 m (x ^^^ b) 0 hx2 (by omega) (by omega)
    rw [show ((Int.toNat (x : Int)) ^^^ (Int.toNat (b : Int)) : Nat) = x ^^^ b from rfl, this, wrap_in (by omega) (by omega)]
    exact hK m (by omega)
theorem impl_from (l : List Int) (hb : ∀ x ∈ l, 0 ≤ x ∧ x < 256) (hl : l.length ≤ 1048576) (d : Nat) : ∀ (i x : Nat), i + d = l.length → x < 4294967296 → Ev (fun k => impl_check32.l0 k (strOfNums l) (x : Int) (l.length : Int) (i : Int)) (((crcL x (l.drop i)) ^^^ 4294967295 : Nat) : Int) := by
  induction d with
  | zero =>
    intro i x hi hx
    refine ev_succ (ev_of_eq fun k => ?_)
    have hx3 : crcL x [] ^^^ 4294967295 < 4294967296 := Nat.xor_lt_two_pow (n := 32) hx (by omega)
    simp only [impl_check32.l0]
    rw [if_neg (by omega), u32_xor _ _ (by omega) (by omega) (by omega) (by omega), List.drop_eq_nil_of_le (by omega), Nat.xor_comm]
    show some (wrap64 ((x ^^^ 4294967295 : Nat) : Int)) = some ((x ^^^ 4294967295 : Nat) : Int)
    rw [wrap_in (by omega) (by have : x ^^^ 4294967295 < 4294967296 := hx3; omega)]
  | succ d ih =>
    intro i x hi hx
    have hlt : i < l.length := by omega
    have hr := rd_byte l hb i hlt
    have hbt : bt (strOfNums l) (i : Int) = rd l (i : Int) := by
      unfold rd at hr ⊢
      rw [Int.toNat_natCast] at hr ⊢
      exact bt_strOfNums l i hlt hr.1 hr.2
    obtain ⟨b, hbe⟩ := Int.eq_ofNat_of_zero_le hr.1
    have hb256 : b < 256 := by omega
    have hx2 : x ^^^ b < 4294967296 := Nat.xor_lt_two_pow (n := 32) (by omega) (by omega)
    rw [rd_drop l i hlt, hbe]
    show Ev _ (((crcL (crc8 8 (x ^^^ b)) (l.drop (i + 1))) ^^^ 4294967295 : Nat) : Int)
    obtain ⟨K, hK⟩ := ih (i + 1) (crc8 8 (x ^^^ b)) (by omega) (crc8_lt 8 hx2)
    refine ⟨K + 10, fun k hk => ?_⟩
    obtain ⟨m, rfl⟩ : ∃ m, k = (m + 8 + 1) + 1 := ⟨k - 10, by omega⟩
    show impl_check32.l0 ((m + 8 + 1) + 1) (strOfNums l) (x : Int) (l.length : Int) (i : Int) = _
    simp only [impl_check32.l0]
    rw [if_pos (by omega), if_pos (by omega), if_pos (by rw [size_strOfNums]; omega), hbt, hbe, show (b : Int) % 4294967296 = (b : Int) from by omega, u32_xor _ _ (by omega) (by omega) (by omega) (by omega)]
    have := impl_halves (strOfNums l) (l.length : Int) (i : Int) 8 m (x ^^^ b) 0 hx2 (by omega) (by omega)
    rw [show ((Int.toNat (x : Int)) ^^^ (Int.toNat (b : Int)) : Nat) = x ^^^ b from rfl, this, wrap_in (by omega) (by omega)]
    exact hK m (by omega)
/-- The check of bytes. -/
def crcV (l : List Int) : Int := ((crcL 4294967295 l ^^^ 4294967295 : Nat) : Int)
theorem spec_check_ev (l : List Int) (hb : ∀ x ∈ l, 0 ≤ x ∧ x < 256) (hl : l.length ≤ 1048576) : Ev (fun k => spec_l01Check.f k l) (crcV l) :=
  spec_from l hb hl l.length 0 4294967295 (by omega) (by omega)
theorem impl_check_ev (l : List Int) (hb : ∀ x ∈ l, 0 ≤ x ∧ x < 256) (hl : l.length ≤ 1048576) : Ev (fun k => impl_check32.f k (strOfNums l)) (crcV l) := by
  have h := impl_from l hb hl l.length 0 4294967295 (by omega) (by omega)
  unfold impl_check32.f
  rw [size_strOfNums]
  exact h
theorem crcL_lt (l : List Int) (hb : ∀ x ∈ l, 0 ≤ x ∧ x < 256) : ∀ x, x < 4294967296 → crcL x l < 4294967296 := by
  induction l with
  | nil => intro x h; exact h
  | cons b r ih =>
    intro x h
    have h1 := hb b List.mem_cons_self
    refine ih (fun y hy => hb y (List.mem_cons_of_mem _ hy)) _ (crc8_lt 8 (Nat.xor_lt_two_pow (n := 32) (by omega) (by omega)))
theorem crcV_range (l : List Int) (hb : ∀ x ∈ l, 0 ≤ x ∧ x < 256) : 0 ≤ crcV l ∧ crcV l < 4294967296 := by
  unfold crcV
  have h := crcL_lt l hb 4294967295 (by omega)
  have h2 : crcL 4294967295 l ^^^ 4294967295 < 4294967296 := Nat.xor_lt_two_pow (n := 32) h (by omega)
  omega

theorem hash_some (s : ByteArray) (h : s.size ≤ 1099511627776) : impl_hash.f s = some (Go.Proofs.YtfjpkblkdlgaeaaDoor.Hash.sha s) := by
  unfold impl_hash.f
  rw [if_pos h]
theorem lhash_some (l : List Int) (hb : ∀ x ∈ l, 0 ≤ x ∧ x < 256) (h : l.length ≤ 1099511627776) : spec_l01Hash.f l = some (Go.Proofs.YtfjpkblkdlgaeaaDoor.Hash.sha (strOfNums l)) := by
  unfold spec_l01Hash.f
  rw [if_pos h, Go.Proofs.YtfjpkblkdlgaeaaDoor.SHash.shaL_eq l hb]
theorem bytesOf_len (s : ByteArray) : (bytesOf s).length = s.size := bytesOf_length s

theorem isText_one (h : ByteArray) : impl_isText.f [h] = some (decide ((h.size : Int) ≤ 65536)) := by
  unfold impl_isText.f impl_isText.p
  simp only [List.any_cons, List.any_nil, Bool.or_false, Option.some.injEq]
  rw [Bool.eq_iff_iff]
  simp
theorem isHash_one (h : ByteArray) : impl_isHash.f [h] = some (decide ((h.size : Int) = 32)) := by
  unfold impl_isHash.f impl_isHash.p
  simp only [List.any_cons, List.any_nil, Bool.or_false, Option.some.injEq]
  rw [Bool.eq_iff_iff]
  simp

theorem srcBytes_l0 (c : List Int) (hc : ∀ x ∈ c, 0 ≤ x ∧ x < 256) (d : Nat) : ∀ (l : List Int) (i a b : Int) (n : Nat), i ≤ (d : Int) → (∀ x ∈ l, 0 ≤ x ∧ x < 256) → l.length + d ≤ 900 → n + d ≤ 7000 → SrcOK c a b n →
    ∃ r a' b', Ev (fun k => spec_l00Src_bytes.l0 k l i c a b) (r, a', b') ∧ (∀ x ∈ r, 0 ≤ x ∧ x < 256) ∧ r.length ≤ l.length + d := by
  induction d with
  | zero =>
    intro l i a b n hi hl hb hn hs
    refine ⟨l, a, b, ev_succ ?_, hl, by omega⟩
    simp only [spec_l00Src_bytes.l0]
    exact ev_if_neg (by omega) (ev_some _)
  | succ d ih =>
    intro l i a b n hi hl hb hn hs
    by_cases g : i > 0
    · obtain ⟨r, a', b', e, r0, r1, h'⟩ := next_src c hc a b n (by omega) 256 (by omega) (by omega) hs
      have w : wrap64 (i - 1) = i - 1 := wrap_in (by omega) (by omega)
      have hx : ∀ x ∈ l ++ [r % 256], 0 ≤ x ∧ x < 256 := fun x hx => by
        rcases List.mem_append.1 hx with h | h
        · exact hl x h
        · rw [List.mem_singleton.1 h]; omega
      obtain ⟨r2, a2, b2, e2, hr2, hl2⟩ := ih (l ++ [r % 256]) (i - 1) a' b' (n + 1) (by omega) hx (by simp only [List.length_append, List.length_cons, List.length_nil]; omega) (by omega) h'
      refine ⟨r2, a2, b2, ev_succ ?_, hr2, by simp only [List.length_append, List.length_cons, List.length_nil] at hl2; omega⟩
      simp only [spec_l00Src_bytes.l0, e, Option.bind_some, w]
      exact ev_if_pos g (ev_if_pos (by omega) e2)
    · refine ⟨l, a, b, ev_succ ?_, hl, by omega⟩
      simp only [spec_l00Src_bytes.l0]
      exact ev_if_neg g (ev_some _)
theorem bytesOf_ev (c : List Int) (hc : ∀ x ∈ c, 0 ≤ x ∧ x < 256) : ∃ r, Ev (fun k => spec_BytesOf.f k c 150) r ∧ (∀ x ∈ r, 0 ≤ x ∧ x < 256) ∧ r.length ≤ 150 := by
  obtain ⟨z, ez, hs⟩ := source_some c
  have w : wrap64 (150 + 1) = 151 := wrap_in (by omega) (by omega)
  obtain ⟨q, a1, b1, e1, q0, q1, h1⟩ := next_src c hc 0 z 0 (by omega) 151 (by omega) (by omega) hs
  obtain ⟨r, a3, b3, e3, hr, hl3⟩ := srcBytes_l0 c hc 150 [] q a1 b1 1 (by omega) (fun y hy => by simp at hy) (by simp) (by omega) h1
  refine ⟨r, ?_, hr, by simpa using hl3⟩
  unfold spec_BytesOf.f
  rw [ez]
  simp only [Option.bind_some]
  refine ev_bind (a := (r, a3, b3)) ?_ (ev_some _)
  unfold spec_l00Src_bytes.f
  rw [w, e1]
  exact e3
/-- A digit of base 16. -/
def hx (v : Int) : Int := bt (⟨#[48, 49, 50, 51, 52, 53, 54, 55, 56, 57, 97, 98, 99, 100, 101, 102]⟩ : ByteArray) v
theorem hx_all : ∀ v : Fin 16, nib (hx (v.val : Int)) = (v.val : Int) ∧ 0 ≤ hx (v.val : Int) ∧ hx (v.val : Int) < 256 := by decide +kernel
theorem hx_nib (v : Int) (h0 : 0 ≤ v) (h1 : v < 16) : nib (hx v) = v ∧ 0 ≤ hx v ∧ hx v < 256 := by
  obtain ⟨n, rfl⟩ := Int.eq_ofNat_of_zero_le h0
  exact hx_all ⟨n, by omega⟩
/-- The n-th digit of a hash's text. -/
def dg (s : ByteArray) (n : Nat) : Int := if n % 2 = 0 then hx (bt s ((n / 2 : Nat) : Int) / 16) else hx (bt s ((n / 2 : Nat) : Int) % 16)
theorem dg_range (s : ByteArray) (n : Nat) : 0 ≤ dg s n ∧ dg s n < 256 := by
  have hb := bt_range s ((n / 2 : Nat) : Int)
  unfold dg
  split
  · exact (hx_nib _ (by omega) (by omega)).2
  · exact (hx_nib _ (by omega) (by omega)).2
def hexT (s : ByteArray) (n : Nat) : List Int := (List.range n).map (dg s)
theorem hexT_two (s : ByteArray) (i : Nat) : hexT s (2 * i) ++ [hx (bt s (i : Int) / 16), hx (bt s (i : Int) % 16)] = hexT s (2 * (i + 1)) := by
  unfold hexT
  rw [show 2 * (i + 1) = 2 * i + 1 + 1 by omega, List.range_succ, List.range_succ, List.map_append, List.map_append, List.append_assoc]
  congr 1
  have e1 : dg s (2 * i) = hx (bt s (i : Int) / 16) := by
    unfold dg
    rw [if_pos (by omega), show 2 * i / 2 = i by omega]
  have e2 : dg s (2 * i + 1) = hx (bt s (i : Int) % 16) := by
    unfold dg
    rw [if_neg (by omega), show (2 * i + 1) / 2 = i by omega]
  rw [List.map_singleton, List.map_singleton, e1, e2]
  rfl
theorem hexT_length (s : ByteArray) (n : Nat) : (hexT s n).length = n := by unfold hexT; rw [List.length_map, List.length_range]
theorem hex_from (s : ByteArray) (hn : s.size = 32) (d : Nat) : ∀ i : Nat, i + d = 32 →
    Ev (fun k => spec_l01Hex.l0 k s (hexT s (2 * i)) (i : Int)) (strOfNums (hexT s 64)) ∧ Ev (fun k => impl_hexOf.l0 k s (hexT s (2 * i)) (s.size : Int) (i : Int)) (strOfNums (hexT s 64)) := by
  induction d with
  | zero =>
    intro i hi
    rw [show 2 * i = 64 by omega]
    refine ⟨ev_succ (ev_of_eq fun k => ?_), ev_succ (ev_of_eq fun k => ?_)⟩
    · simp only [spec_l01Hex.l0]; rw [if_neg (by omega)]
    · simp only [impl_hexOf.l0]; rw [if_neg (by omega)]
  | succ d ih =>
    intro i hi
    have hb := bt_range s (i : Int)
    obtain ⟨hs, hm⟩ := ih (i + 1) (by omega)
    rw [← hexT_two] at hs hm
    unfold hx at hs hm
    have e1 : (Int.tdiv (bt s (i : Int)) 16) % 256 = bt s (i : Int) / 16 := by rw [Int.tdiv_eq_ediv_of_nonneg hb.1]; omega
    have e2 : Int.tmod (bt s (i : Int)) 16 = bt s (i : Int) % 16 := Int.tmod_eq_emod_of_nonneg hb.1
    have e3 : Go.bits .and .u8 (bt s (i : Int)) 15 = bt s (i : Int) % 16 := u8_and15 _ hb.1 (by omega)
    have hl := hexT_length s (2 * i)
    have w : wrap64 ((i : Int) + 1) = ((i + 1 : Nat) : Int) := (wrap_in (by omega) (by omega)).trans (by omega)
    refine ⟨ev_succ (ev_congr (fun k => ?_) hs), ev_succ (ev_congr (fun k => ?_) hm)⟩
    · simp only [spec_l01Hex.l0, e1, e2, w]
      clear w e1 e2 e3
      rw [if_pos (by omega), if_pos (by omega), if_pos (by omega), if_pos (by omega), if_pos (by omega), if_pos (by omega)]
      simp only [Option.bind_some]
      rw [if_pos (by simp only [List.length_cons, List.length_nil]; omega)]
    · simp only [impl_hexOf.l0, e3, w]
      clear w e1 e2 e3
      rw [if_pos (by omega), if_pos (by omega), if_pos (by omega), if_pos (by omega), if_pos (by omega), if_pos (by omega), if_pos (by omega)]
      simp only [Option.bind_some]
      rw [if_pos (by simp only [List.length_cons, List.length_nil]; omega)]
theorem bt_hexT (s : ByteArray) (n : Nat) (hn : n < 64) : bt (strOfNums (hexT s 64)) (n : Int) = dg s n := by
  have hr := dg_range s n
  have he : (hexT s 64).getD n 0 = dg s n := by
    unfold hexT
    rw [List.getD_eq_getElem?_getD, List.getElem?_map, List.getElem?_range hn]
    rfl
  rw [bt_strOfNums (hexT s 64) n (by rw [hexT_length]; exact hn) (by rw [he]; exact hr.1) (by rw [he]; exact hr.2), he]
theorem digits_hexT (s : ByteArray) : digits (strOfNums (hexT s 64)) 32 0 := by
  rw [digits_iff]
  intro j _ hj
  rw [bt_hexT s j (by omega)]
  have hb := bt_range s ((j / 2 : Nat) : Int)
  unfold dg
  split
  · rw [(hx_nib _ (by omega) (by omega)).1]; omega
  · rw [(hx_nib _ (by omega) (by omega)).1]; omega
theorem pairs_hexT (s : ByteArray) (d : Nat) : ∀ i : Nat, i + d = 32 → pairs (strOfNums (hexT s 64)) d (2 * i) = (List.range d).map fun j => bt s ((i + j : Nat) : Int) := by
  induction d with
  | zero => intro i hi; rfl
  | succ d ih =>
    intro i hi
    have hb := bt_range s (i : Int)
    have e0 := bt_hexT s (2 * i) (by omega)
    have e1 := bt_hexT s (2 * i + 1) (by omega)
    have d0 : dg s (2 * i) = hx (bt s (i : Int) / 16) := by unfold dg; rw [if_pos (by omega), show 2 * i / 2 = i by omega]
    have d1 : dg s (2 * i + 1) = hx (bt s (i : Int) % 16) := by unfold dg; rw [if_neg (by omega), show (2 * i + 1) / 2 = i by omega]
    have n0 := (hx_nib (bt s (i : Int) / 16) (by omega) (by omega)).1
    have n1 := (hx_nib (bt s (i : Int) % 16) (by omega) (by omega)).1
    unfold pairs
    rw [e0, e1, d0, d1, n0, n1, show 2 * i + 2 = 2 * (i + 1) by omega, ih (i + 1) (by omega), List.range_succ_eq_map, List.map_cons, List.map_map]
    congr 1
    · rw [Nat.add_zero]; omega
    · apply List.map_congr_left
      intro j _
      show bt s ((i + 1 + j : Nat) : Int) = bt s ((i + (j + 1) : Nat) : Int)
      rw [show i + 1 + j = i + (j + 1) by omega]
theorem bytes_range (s : ByteArray) (hs : s.size = 32) : ((List.range 32).map fun j => bt s ((0 + j : Nat) : Int)) = bytesOf s := by
  apply List.ext_getElem?
  intro n
  rw [List.getElem?_map]
  by_cases h : n < 32
  · rw [List.getElem?_range h]
    show some (bt s ((0 + n : Nat) : Int)) = _
    have hl : n < (bytesOf s).length := by rw [bytesOf_length]; omega
    have hx := bytesOf_range s _ (List.getElem_mem hl)
    rw [List.getElem?_eq_getElem hl, Nat.zero_add]
    congr 1
    have h2 := bt_strOfNums (bytesOf s) n hl (by rw [List.getD_eq_getElem?_getD, List.getElem?_eq_getElem hl]; exact hx.1) (by rw [List.getD_eq_getElem?_getD, List.getElem?_eq_getElem hl]; exact hx.2)
    rw [strOfNums_bytesOf, List.getD_eq_getElem?_getD, List.getElem?_eq_getElem hl] at h2
    exact h2
  · rw [List.getElem?_eq_none (by rw [List.length_range]; omega), List.getElem?_eq_none (by rw [bytesOf_length]; omega)]
    rfl
/-- The text of a hash is read back. -/
theorem back_ev (s : ByteArray) (hs : s.size = 32) : Ev (fun k => impl_ReadHash.f k (strOfNums (hexT s 64))) (s, 0) := by
  have hz : (strOfNums (hexT s 64)).size = 64 := by rw [size_strOfNums, hexT_length]
  have hi := impl_digits (strOfNums (hexT s 64)) hz 32 0 [] (by omega) (by simp)
  have h3 := pairs_hexT s 32 0 (by omega)
  rw [Nat.mul_zero, bytes_range s hs] at h3
  rw [h3, List.nil_append, strOfNums_bytesOf] at hi
  have ht := (trim_digits (strOfNums (hexT s 64)) hz).2 (digits_hexT s)
  have htr : strings_Trim.f (strOfNums (hexT s 64)) (⟨#[48, 49, 50, 51, 52, 53, 54, 55, 56, 57, 97, 98, 99, 100, 101, 102]⟩ : ByteArray) = some ⟨(Lib.trimS (strOfNums (hexT s 64)).data.toList hexL).toArray⟩ := by
    unfold strings_Trim.f
    rw [if_pos ⟨by omega, by decide, by decide⟩]
    rfl
  have htl : ∀ l : List UInt8, (⟨l.toArray⟩ : ByteArray).toList = l := fun l => by rw [ByteArray.toList_eq]
  have hr : Ev (fun k => impl_readHash.f k (strOfNums (hexT s 64))) (s, true) := by
    unfold impl_readHash.f
    refine ev_if_pos (by omega) ?_
    rw [htr]
    simp only [Option.bind_some, htl, ht]
    refine ev_succ ?_
    simp only [impl_readHash.j0]
    exact ev_if_neg (by simp) hi
  unfold impl_ReadHash.f
  rw [isText_one, decide_eq_true (by omega)]
  simp only [Option.bind_some]
  exact ev_if_pos (by simp) (ev_bind hr (ev_if_pos rfl (ev_some _)))
/-- The digit of bit k of a byte, the highest first. -/
def bd (b : Int) (k : Int) : Int := (wrap64 (48 + Go.bits .and .i64 (wrap64 (shr .u8 b (7 - k))) 1)) % 256
def worth (b : Int) : Nat → Int
  | 0 => 0
  | k + 1 => 2 * worth b k + (bd b (k : Int) - 48) % 256
theorem worth_all : ∀ b : Fin 256, (∀ k : Fin 9, 0 ≤ worth (b.val : Int) k.val ∧ worth (b.val : Int) k.val ≤ 255) ∧ worth (b.val : Int) 8 = (b.val : Int) := by decide +kernel
theorem worth_of (b : Int) (h0 : 0 ≤ b) (h1 : b < 256) : (∀ k : Nat, k ≤ 8 → 0 ≤ worth b k ∧ worth b k ≤ 255) ∧ worth b 8 = b := by
  obtain ⟨n, rfl⟩ := Int.eq_ofNat_of_zero_le h0
  have h := worth_all ⟨n, by omega⟩
  exact ⟨fun k hk => h.1 ⟨k, by omega⟩, h.2⟩
def bitT (s : ByteArray) (n : Nat) : List Int := (List.range n).map fun m => bd (bt s ((m / 8 : Nat) : Int)) ((m % 8 : Nat) : Int)
theorem bitT_length (s : ByteArray) (n : Nat) : (bitT s n).length = n := by unfold bitT; rw [List.length_map, List.length_range]
theorem bits_from (s : ByteArray) (hn : s.size = 32) (d : Nat) : ∀ n : Nat, n + d = 256 → Ev (fun k => impl_HashBits.l0 k s (bitT s n) (n : Int)) (strOfNums (bitT s 256), 0) := by
  induction d with
  | zero =>
    intro n hi
    rw [show n = 256 by omega]
    refine ev_succ (ev_of_eq fun k => ?_)
    simp only [impl_HashBits.l0]
    rw [if_neg (by omega)]
  | succ d ih =>
    intro n hi
    have h := ih (n + 1) (by omega)
    have hl := bitT_length s n
    have hb : bitT s (n + 1) = bitT s n ++ [bd (bt s ((n / 8 : Nat) : Int)) ((n % 8 : Nat) : Int)] := by unfold bitT; rw [List.range_succ, List.map_append, List.map_singleton]
    rw [hb] at h
    unfold bd at h
    have e1 : wrap64 (Int.tdiv (n : Int) 8) = ((n / 8 : Nat) : Int) := by rw [Int.tdiv_eq_ediv_of_nonneg (by omega), wrap_in (by omega) (by omega)]; omega
    have e2 : wrap64 (7 - Int.tmod (n : Int) 8) = 7 - ((n % 8 : Nat) : Int) := by rw [Int.tmod_eq_emod_of_nonneg (by omega), wrap_in (by omega) (by omega)]; omega
    have w : wrap64 ((n : Int) + 1) = ((n + 1 : Nat) : Int) := (wrap_in (by omega) (by omega)).trans (by omega)
    refine ev_succ (ev_congr (fun k => ?_) h)
    simp only [impl_HashBits.l0, impl_bit.f, e1, e2, w]
    clear e1 e2 w h
    rw [if_pos (by omega), if_pos (by omega), if_pos (by omega), if_pos (by omega)]
    simp only [Option.bind_some]
    rw [if_pos (by omega)]
theorem bd_range (b : Int) (k : Int) : 0 ≤ bd b k ∧ bd b k < 256 := by unfold bd; omega
theorem bt_bitT (s : ByteArray) (n : Nat) (hn : n < 256) : bt (strOfNums (bitT s 256)) (n : Int) = bd (bt s ((n / 8 : Nat) : Int)) ((n % 8 : Nat) : Int) := by
  have hr := bd_range (bt s ((n / 8 : Nat) : Int)) ((n % 8 : Nat) : Int)
  have he : (bitT s 256).getD n 0 = bd (bt s ((n / 8 : Nat) : Int)) ((n % 8 : Nat) : Int) := by
    unfold bitT
    rw [List.getD_eq_getElem?_getD, List.getElem?_map, List.getElem?_range hn]
    rfl
  rw [bt_strOfNums (bitT s 256) n (by rw [bitT_length]; exact hn) (by rw [he]; exact hr.1) (by rw [he]; exact hr.2), he]
theorem law_l1 (s : ByteArray) (hs : s.size = 32) (i : Nat) (hi : i < 32) (next : Ev (fun k => laws_FnHash.l0 k s (strOfNums (bitT s 256)) ((i + 1 : Nat) : Int)) true) (d : Nat) :
    ∀ k : Nat, k + d = 8 → Ev (fun m => laws_FnHash.l1 m s (strOfNums (bitT s 256)) (i : Int) (worth (bt s (i : Int)) k) (k : Int)) true := by
  have hb := bt_range s (i : Int)
  obtain ⟨hw, h8⟩ := worth_of (bt s (i : Int)) hb.1 (by omega)
  induction d with
  | zero =>
    intro k hk
    obtain rfl : k = 8 := by omega
    have w1 : Aside0 (wrap64 (bt s (i : Int)) = bt s (i : Int)) := ⟨wrap_in (by omega) (by omega)⟩
    have w2 : Aside0 (wrap64 ((i : Int) + 1) = ((i + 1 : Nat) : Int)) := ⟨(wrap_in (by omega) (by omega)).trans (by omega)⟩
    rw [h8]
    refine ev_succ ?_
    simp only [laws_FnHash.l1, w1.out, w2.out]
    exact ev_if_neg (by omega) (ev_if_pos (by omega) (ev_if_pos (by omega) (ev_if_pos trivial next)))
  | succ d ih =>
    intro k hk
    have h := ih (k + 1) (by omega)
    have hk1 := hw k (by omega)
    have hk2 := hw (k + 1) (by omega)
    have hz : (strOfNums (bitT s 256)).size = 256 := by rw [size_strOfNums, bitT_length]
    have hbt := bt_bitT s (8 * i + k) (by omega)
    rw [show (8 * i + k) / 8 = i by omega, show (8 * i + k) % 8 = k by omega] at hbt
    have hd : worth (bt s (i : Int)) (k + 1) = 2 * worth (bt s (i : Int)) k + (bd (bt s (i : Int)) (k : Int) - 48) % 256 := rfl
    have w1 : Aside0 (wrap64 (wrap64 (8 * (i : Int)) + (k : Int)) = ((8 * i + k : Nat) : Int)) := ⟨by
      rw [wrap_in (x := 8 * (i : Int)) (by omega) (by omega), wrap_in (by omega) (by omega)]
      omega⟩
    have w2 : Aside0 (wrap64 (wrap64 (2 * worth (bt s (i : Int)) k) + (bd (bt s (i : Int)) (k : Int) - 48) % 256) = worth (bt s (i : Int)) (k + 1)) := ⟨by
      rw [wrap_in (x := 2 * worth (bt s (i : Int)) k) (by omega) (by omega), ← hd, wrap_in (by omega) (by omega)]⟩
    have w3 : Aside0 (wrap64 ((k : Int) + 1) = ((k + 1 : Nat) : Int)) := ⟨(wrap_in (by omega) (by omega)).trans (by omega)⟩
    refine ev_succ ?_
    simp only [laws_FnHash.l1, w1.out, hbt, w2.out, w3.out]
    exact ev_if_pos (by omega) (ev_if_pos (by omega) (ev_if_pos (by omega) h))
theorem law_l0 (s : ByteArray) (hs : s.size = 32) (d : Nat) : ∀ i : Nat, i + d = 32 → Ev (fun k => laws_FnHash.l0 k s (strOfNums (bitT s 256)) (i : Int)) true := by
  induction d with
  | zero =>
    intro i hi
    refine ev_succ ?_
    simp only [laws_FnHash.l0]
    exact ev_if_neg (by omega) (ev_some _)
  | succ d ih =>
    intro i hi
    refine ev_succ ?_
    simp only [laws_FnHash.l0]
    exact ev_if_pos (by omega) (law_l1 s hs i (by omega) (ih (i + 1) (by omega)) 8 0 (by omega))
theorem FnHash : laws_FnHash.Pure := by
  intro l _ _ hwf
  refine Ev.rounds (r := true) ?_
  unfold laws_FnHash.f
  by_cases h1 : (l.length : Int) > 1048576
  · exact ev_if_pos h1 (ev_some _)
  · have hb : ∀ x ∈ l, 0 ≤ x ∧ x < 256 := fun x hx => by
      have h := hwf x hx
      simp only [Lit.wf, Bool.and_eq_true, decide_eq_true_eq] at h
      have h1 : IntKind.u8.min = 0 := rfl
      have h2 : IntKind.u8.max = 255 := rfl
      omega
    obtain ⟨b, eb, hbb, hbl⟩ := bytesOf_ev l hb
    have hsz := Go.Proofs.YtfjpkblkdlgaeaaDoor.SHash.sha_size (strOfNums b)
    have hi : impl_Hash.f b = some (Go.Proofs.YtfjpkblkdlgaeaaDoor.Hash.sha (strOfNums b)) := by
      unfold impl_Hash.f
      rw [if_neg (by omega), hash_some _ (by rw [size_strOfNums]; omega)]; rfl
    have hsp : spec_Hash.f b = some (Go.Proofs.YtfjpkblkdlgaeaaDoor.Hash.sha (strOfNums b)) := by
      unfold spec_Hash.f
      rw [if_neg (by omega), lhash_some b hbb (by omega)]; rfl
    generalize Go.Proofs.YtfjpkblkdlgaeaaDoor.Hash.sha (strOfNums b) = s at hi hsp hsz
    obtain ⟨hx1, hx2⟩ := hex_from s hsz 32 0 (by omega)
    have it : Ev (fun k => impl_HashText.f k s) (strOfNums (hexT s 64), 0) := by
      unfold impl_HashText.f
      rw [isText_one, isHash_one]
      refine ev_congr (fun k => ?_) (ev_bind (g := fun k => impl_hexOf.f k s) (f := fun _ t => some (t, (0 : Int))) hx2 (ev_some _))
      simp only [Option.bind_some]
      rw [if_pos (by simp; omega), if_pos (by simp; omega)]
    have st : Ev (fun k => spec_HashText.f k s) (strOfNums (hexT s 64), 0) := by
      unfold spec_HashText.f
      exact ev_if_neg (by omega) (ev_if_pos (by omega) (ev_bind (g := fun k => spec_l01Hex.f k s) hx1 (ev_some _)))
    have ib : Ev (fun k => impl_HashBits.f k s) (strOfNums (bitT s 256), 0) := by
      unfold impl_HashBits.f
      rw [isText_one, isHash_one]
      refine ev_congr (fun k => ?_) (bits_from s hsz 256 0 (by omega))
      simp only [Option.bind_some]
      rw [if_pos (by simp; omega), if_pos (by simp; omega)]
      rfl
    have c1 : Ev (fun k => impl_Check32.f k b) (crcV b) := by
      unfold impl_Check32.f
      exact ev_if_neg (by omega) (ev_bind (impl_check_ev b hbb (by omega)) (ev_some _))
    have c2 : Ev (fun k => spec_Check32.f k b) (crcV b) := by
      unfold spec_Check32.f
      exact ev_if_neg (by omega) (ev_bind (spec_check_ev b hbb (by omega)) (ev_some _))
    have hz : (strOfNums (bitT s 256)).size = 256 := by rw [size_strOfNums, bitT_length]
    refine ev_if_neg h1 (ev_bind eb (ev_bind (ev_of_eq fun _ => hi) (ev_bind it (ev_bind (ev_of_eq fun _ => hsp) (ev_bind st (ev_bind (back_ev s hsz) (ev_bind ib ?_)))))))
    refine ev_if_pos (by omega) (ev_if_pos (by first | rfl | trivial) (ev_if_pos (by first | rfl | trivial) (ev_if_pos (by first | rfl | trivial) (ev_if_pos (by first | rfl | trivial) (ev_if_pos (by first | rfl | trivial) (ev_if_pos (by simp only [hz]; rfl) (ev_bind c1 (ev_bind c2 ?_))))))))
    have hne : (crcV b != crcV b) = false := bne_self_eq_false _
    simp only [hne]
    refine ev_succ ?_
    simp only [laws_FnHash.j0]
    exact ev_if_neg (by simp) (law_l0 s hsz 32 0 (by omega))
end Go.Proofs.YtfjpkblkdlgaeaaDoor.Pure
