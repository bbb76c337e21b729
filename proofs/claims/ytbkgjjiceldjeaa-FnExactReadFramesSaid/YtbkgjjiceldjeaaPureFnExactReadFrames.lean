/- ReadFrames answers as the reference's at all bytes: the plain form. No conditions. -/
import Derived.Test.YtbkgjjiceldjeaaPFnExactReadFramesx5
import Derived.Test.YtbkgjjiceldjeaaU
import Derived.Laws.BitsAllLaws
namespace Go.Proofs.Ytbkgjjiceldjeaa.Pure
open Go.RowKit Go.Proofs.Ytbkgjjiceldjeaa.PFnExactReadFrames Go.Proofs.YtbkgjjiceldjeaaW.PrintWords Go.Proofs.YtbkgjjiceldjeaaW.PrintLast Go.Proofs.YtbkgjjiceldjeaaW.PrintMore Go.Proofs.Ytbkgjjiceldjeaa.U
/-- One halving of the register. -/
def crcH (x : Nat) : Nat := if x % 2 = 1 then (x / 2) ^^^ 3988292384 else x / 2
def crc8 : Nat → Nat → Nat
  | 0, x => x
  | n + 1, x => crc8 n (crcH x)
def crcL : Nat → List Int → Nat
  | x, [] => x
  | x, b :: l => crcL (crc8 8 (x ^^^ b.toNat)) l
theorem crcH_lt {x : Nat} (h : x < 4294967296) : crcH x < 4294967296 := by
  unfold crcH
  split
  · exact Nat.xor_lt_two_pow (n := 32) (by omega) (by omega)
  · omega
theorem crc8_lt (n : Nat) : ∀ {x : Nat}, x < 4294967296 → crc8 n x < 4294967296 := by
  induction n with
  | zero => intro x h; exact h
  | succ n ih => intro x h; exact ih (crcH_lt h)
theorem spec_half (k : Nat) (l : List Int) (x : Nat) (hx : x < 4294967296) (i j : Int) (hj : 0 ≤ j ∧ j < 8) : spec_l01Check.l1 (k + 1) l (x : Int) i j = spec_l01Check.l1 k l ((crcH x : Nat) : Int) i (j + 1) := by
  simp only [spec_l01Check.l1]
  rw [if_pos hj.2, wrap_in (x := j + 1) (by omega) (by omega), Int.tmod_eq_emod_of_nonneg (by omega), Int.tdiv_eq_ediv_of_nonneg (by omega), wrap_in (x := (x : Int) / 2) (by omega) (by omega)]
  unfold crcH
  by_cases h : x % 2 = 1
  · rw [if_pos (by omega), if_pos h, i64_xor _ _ (by omega) (by omega) (by omega) (by omega)]
    rfl
  · rw [if_neg (by omega), if_neg h]
    rfl
theorem impl_half (k : Nat) (s : ByteArray) (x : Nat) (hx : x < 4294967296) (n i j : Int) (hj : 0 ≤ j ∧ j < 8) : impl_check32.l1 (k + 1) s (x : Int) n i j = impl_check32.l1 k s ((crcH x : Nat) : Int) n i (j + 1) := by
  simp only [impl_check32.l1]
  rw [if_pos hj.2, wrap_in (x := j + 1) (by omega) (by omega), u32_and _ _ (by omega) (by omega) (by omega) (by omega), Int.toNat_natCast, show Int.toNat 1 = 1 from rfl, nat_mask1]
  unfold crcH
  by_cases h : x % 2 = 1
  · rw [if_pos (by omega), if_pos h, u32_xor _ _ (by omega) (by omega) (by omega) (by omega)]
    rfl
  · rw [if_neg (by omega), if_neg h]
    rfl
theorem spec_halves (l : List Int) (i : Int) (n : Nat) : ∀ (k x : Nat) (j : Int), x < 4294967296 → 0 ≤ j → j + n = 8 → spec_l01Check.l1 (k + n + 1) l (x : Int) i j = spec_l01Check.l0 k l ((crc8 n x : Nat) : Int) (wrap64 (i + 1)) := by
  induction n with
  | zero =>
    intro k x j hx h0 h8
    simp only [spec_l01Check.l1]
    rw [if_neg (by omega)]
    rfl
  | succ n ih =>
    intro k x j hx h0 h8
    rw [show k + (n + 1) + 1 = (k + n + 1) + 1 from by omega, spec_half _ l x hx i j ⟨h0, by omega⟩]
    exact ih k (crcH x) (j + 1) (crcH_lt hx) (by omega) (by omega)
theorem impl_halves (s : ByteArray) (m i : Int) (n : Nat) : ∀ (k x : Nat) (j : Int), x < 4294967296 → 0 ≤ j → j + n = 8 → impl_check32.l1 (k + n + 1) s (x : Int) m i j = impl_check32.l0 k s ((crc8 n x : Nat) : Int) m (wrap64 (i + 1)) := by
  induction n with
  | zero =>
    intro k x j hx h0 h8
    simp only [impl_check32.l1]
    rw [if_neg (by omega)]
    rfl
  | succ n ih =>
    intro k x j hx h0 h8
    rw [show k + (n + 1) + 1 = (k + n + 1) + 1 from by omega, impl_half _ s x hx m i j ⟨h0, by omega⟩]
    exact ih k (crcH x) (j + 1) (crcH_lt hx) (by omega) (by omega)
theorem rd_drop (l : List Int) (i : Nat) (hi : i < l.length) : l.drop i = rd l (i : Int) :: l.drop (i + 1) := by
  unfold rd
  rw [Int.toNat_natCast, List.getD_eq_getElem?_getD, List.getElem?_eq_getElem hi, Option.getD_some]
  exact List.drop_eq_getElem_cons hi
theorem rd_byte (l : List Int) (hb : ∀ x ∈ l, 0 ≤ x ∧ x < 256) (i : Nat) (hi : i < l.length) : 0 ≤ rd l (i : Int) ∧ rd l (i : Int) < 256 := by
  unfold rd
  rw [Int.toNat_natCast, List.getD_eq_getElem?_getD, List.getElem?_eq_getElem hi, Option.getD_some]
  exact hb _ (List.getElem_mem hi)
theorem spec_from (l : List Int) (hb : ∀ x ∈ l, 0 ≤ x ∧ x < 256) (hl : l.length ≤ 1048576) (d : Nat) : ∀ (i x : Nat), i + d = l.length → x < 4294967296 → Ev (fun k => spec_l01Check.l0 k l (x : Int) (i : Int)) (((crcL x (l.drop i)) ^^^ 4294967295 : Nat) : Int) := by
  induction d with
  | zero =>
    intro i x hi hx
    refine ev_succ (ev_of_eq fun k => ?_)
    simp only [spec_l01Check.l0]
    rw [if_neg (by omega), i64_xor _ _ (by omega) (by omega) (by omega) (by omega), List.drop_eq_nil_of_le (by omega)]
    rfl
  | succ d ih =>
    intro i x hi hx
    have hlt : i < l.length := by omega
    have hr := rd_byte l hb i hlt
    obtain ⟨b, hbe⟩ := Int.eq_ofNat_of_zero_le hr.1
    have hb256 : b < 256 := by omega
    have hx2 : x ^^^ b < 4294967296 := Nat.xor_lt_two_pow (n := 32) (by omega) (by omega)
    rw [rd_drop l i hlt, hbe]
    show Ev _ (((crcL (crc8 8 (x ^^^ b)) (l.drop (i + 1))) ^^^ 4294967295 : Nat) : Int)
    obtain ⟨K, hK⟩ := ih (i + 1) (crc8 8 (x ^^^ b)) (by omega) (crc8_lt 8 hx2)
    refine ⟨K + 10, fun k hk => ?_⟩
    obtain ⟨m, rfl⟩ : ∃ m, k = (m + 8 + 1) + 1 := ⟨k - 10, by omega⟩
    show spec_l01Check.l0 ((m + 8 + 1) + 1) l (x : Int) (i : Int) = _
    simp only [spec_l01Check.l0]
    rw [if_pos (by omega), if_pos (by omega), hbe, wrap_in (by omega) (by omega), i64_xor _ _ (by omega) (by omega) (by omega) (by omega)]
    have := spec_halves l (i : Int) 8 m (x ^^^ b) 0 hx2 (by omega) (by omega)
    rw [show ((Int.toNat (x : Int)) ^^^ (Int.toNat (b : Int)) : Nat) = x ^^^ b from rfl, this, wrap_in (by omega) (by omega)]
    exact hK m (by omega)
theorem impl_from (l : List Int) (hb : ∀ x ∈ l, 0 ≤ x ∧ x < 256) (hl : l.length ≤ 1048576) (d : Nat) : ∀ (i x : Nat), i + d = l.length → x < 4294967296 → Ev (fun k => impl_check32.l0 k (strOfNums l) (x : Int) (l.length : Int) (i : Int)) (((crcL x (l.drop i)) ^^^ 4294967295 : Nat) : Int) := by
  induction d with
  | zero =>
    intro i x hi hx
    refine ev_succ (ev_of_eq fun k => ?_)
    have hx3 : crcL x [] ^^^ 4294967295 < 4294967296 := Nat.xor_lt_two_pow (n := 32) hx (by omega)
    simp only [impl_check32.l0]
    rw [if_neg (by omega), u32_xor _ _ (by omega) (by omega) (by omega) (by omega), List.drop_eq_nil_of_le (by omega), Nat.xor_comm]
    show some (wrap64 ((x ^^^ 4294967295 : Nat) : Int)) = some ((x ^^^ 4294967295 : Nat) : Int)
    rw [wrap_in (by omega) (by have : x ^^^ 4294967295 < 4294967296 := hx3; omega)]
  | succ d ih =>
    intro i x hi hx
    have hlt : i < l.length := by omega
    have hr := rd_byte l hb i hlt
    have hbt : bt (strOfNums l) (i : Int) = rd l (i : Int) := by
      unfold rd at hr ⊢
      rw [Int.toNat_natCast] at hr ⊢
      exact bt_strOfNums l i hlt hr.1 hr.2
    obtain ⟨b, hbe⟩ := Int.eq_ofNat_of_zero_le hr.1
    have hb256 : b < 256 := by omega
    have hx2 : x ^^^ b < 4294967296 := Nat.xor_lt_two_pow (n := 32) (by omega) (by omega)
    rw [rd_drop l i hlt, hbe]
    show Ev _ (((crcL (crc8 8 (x ^^^ b)) (l.drop (i + 1))) ^^^ 4294967295 : Nat) : Int)
    obtain ⟨K, hK⟩ := ih (i + 1) (crc8 8 (x ^^^ b)) (by omega) (crc8_lt 8 hx2)
    refine ⟨K + 10, fun k hk => ?_⟩
    obtain ⟨m, rfl⟩ : ∃ m, k = (m + 8 + 1) + 1 := ⟨k - 10, by omega⟩
    show impl_check32.l0 ((m + 8 + 1) + 1) (strOfNums l) (x : Int) (l.length : Int) (i : Int) = _
    simp only [impl_check32.l0]
    rw [if_pos (by omega), if_pos (by omega), if_pos (by rw [size_strOfNums]; omega), hbt, hbe, show (b : Int) % 4294967296 = (b : Int) from by omega, u32_xor _ _ (by omega) (by omega) (by omega) (by omega)]
    have := impl_halves (strOfNums l) (l.length : Int) (i : Int) 8 m (x ^^^ b) 0 hx2 (by omega) (by omega)
    rw [show ((Int.toNat (x : Int)) ^^^ (Int.toNat (b : Int)) : Nat) = x ^^^ b from rfl, this, wrap_in (by omega) (by omega)]
    exact hK m (by omega)
/-- The check of bytes. -/
def crcV (l : List Int) : Int := ((crcL 4294967295 l ^^^ 4294967295 : Nat) : Int)
theorem spec_check_ev (l : List Int) (hb : ∀ x ∈ l, 0 ≤ x ∧ x < 256) (hl : l.length ≤ 1048576) : Ev (fun k => spec_l01Check.f k l) (crcV l) :=
  spec_from l hb hl l.length 0 4294967295 (by omega) (by omega)
theorem impl_check_ev (l : List Int) (hb : ∀ x ∈ l, 0 ≤ x ∧ x < 256) (hl : l.length ≤ 1048576) : Ev (fun k => impl_check32.f k (strOfNums l)) (crcV l) := by
  have h := impl_from l hb hl l.length 0 4294967295 (by omega) (by omega)
  unfold impl_check32.f
  rw [size_strOfNums]
  exact h
theorem crcL_lt (l : List Int) (hb : ∀ x ∈ l, 0 ≤ x ∧ x < 256) : ∀ x, x < 4294967296 → crcL x l < 4294967296 := by
  induction l with
  | nil => intro x h; exact h
  | cons b r ih =>
    intro x h
    have h1 := hb b List.mem_cons_self
    refine ih (fun y hy => hb y (List.mem_cons_of_mem _ hy)) _ (crc8_lt 8 (Nat.xor_lt_two_pow (n := 32) (by omega) (by omega)))
theorem crcV_range (l : List Int) (hb : ∀ x ∈ l, 0 ≤ x ∧ x < 256) : 0 ≤ crcV l ∧ crcV l < 4294967296 := by
  unfold crcV
  have h := crcL_lt l hb 4294967295 (by omega)
  have h2 : crcL 4294967295 l ^^^ 4294967295 < 4294967296 := Nat.xor_lt_two_pow (n := 32) h (by omega)
  omega

/-- What the program's number writes. -/
theorem number_from (m : Nat) (hm : m ≤ 1000) (i : Nat) : ∀ (n : Int) (x : List Int), i ≤ m → x.length = m → Ev (fun k => impl_number.l0 k n x ((i : Int) - 1)) (strOfNums (BE n i ++ x.drop i)) := by
  induction i with
  | zero =>
    intro n x hi hx
    refine ev_succ (ev_of_eq fun k => ?_)
    simp only [impl_number.l0]
    rw [if_neg (by omega)]
    rfl
  | succ i ih =>
    intro n x hi hx
    have h := ih (n / 256) (x.set i (n % 256)) (by omega) (by rw [List.length_set, hx])
    have he : BE (n / 256) i ++ (x.set i (n % 256)).drop i = BE n (i + 1) ++ x.drop (i + 1) := by
      have hd : (x.set i (n % 256)).drop i = (n % 256) :: x.drop (i + 1) := by
        rw [List.drop_eq_getElem_cons (by rw [List.length_set]; omega), List.getElem_set_self, List.drop_set_of_lt (by omega)]
      rw [hd, BE, List.append_assoc]
      rfl
    rw [he] at h
    refine ev_succ (ev_congr (fun k => ?_) h)
    simp only [impl_number.l0]
    rw [show (((i + 1 : Nat) : Int) - 1) = (i : Int) from by omega, if_pos (by omega), if_pos (by omega), if_pos (by omega), Int.toNat_natCast, wrap_in (x := (i : Int) - 1) (by omega) (by omega)]
theorem number_ev (n : Int) (m : Nat) (hm : m ≤ 1000) : Ev (fun k => impl_number.f k n (m : Int)) (strOfNums (BE n m)) := by
  have h := number_from m hm m n (List.replicate m 0) (Nat.le_refl _) (by simp)
  rw [List.drop_of_length_le (by simp), List.append_nil] at h
  refine ev_congr (fun k => ?_) h
  unfold impl_number.f
  rw [if_pos (by omega), if_pos (by omega), Int.toNat_natCast, wrap_in (by omega) (by omega)]

def Bytes (l : List Int) : Prop := ∀ x ∈ l, 0 ≤ x ∧ x < 256
theorem Bytes.app {a b : List Int} (ha : Bytes a) (hb : Bytes b) : Bytes (a ++ b) := fun x hx => by
  rcases List.mem_append.1 hx with h | h
  · exact ha x h
  · exact hb x h
theorem Bytes.be (n : Int) (m : Nat) : Bytes (BE n m) := BE_range m n
/-- A frame: the size, the check of size and data, the data. -/
def frameL (p : List Int) : List Int := BE (p.length : Int) 2 ++ BE (crcV (BE (p.length : Int) 2 ++ p)) 4 ++ p
theorem frameL_length (p : List Int) : (frameL p).length = 6 + p.length := by
  unfold frameL
  rw [List.length_append, List.length_append, BE_length, BE_length]
theorem BE2 (n : Int) : BE n 2 = [n / 256 % 256, n % 256] := rfl
theorem BE4 (n : Int) : BE n 4 = [n / 256 / 256 / 256 % 256, n / 256 / 256 % 256, n / 256 % 256, n % 256] := rfl
theorem impl_frame_ev (p : List Int) (hb : Bytes p) (hl : p.length ≤ 1000000) : Ev (fun k => impl_frame.f k (strOfNums p)) (strOfNums (frameL p)) := by
  unfold impl_frame.f
  rw [size_strOfNums]
  have h1 := number_ev (p.length : Int) 2 (by omega)
  refine ev_bind h1 ?_
  refine ev_if_pos (by rw [size_strOfNums, BE_length]; omega) ?_
  rw [← strOfNums_append]
  refine ev_bind (impl_check_ev _ ((Bytes.be _ _).app hb) (by rw [List.length_append, BE_length]; omega)) ?_
  refine ev_bind (number_ev _ 4 (by omega)) ?_
  refine ev_if_pos (by rw [size_strOfNums, size_strOfNums, BE_length, BE_length]; omega) ?_
  refine ev_if_pos (by rw [size_strOfNums, size_strOfNums, BE_length, BE_length]; omega) ?_
  rw [← strOfNums_append, ← strOfNums_append]
  exact ev_some _
theorem spec_frame_ev (p : List Int) (hb : Bytes p) (hl : p.length ≤ 1000000) : Ev (fun k => spec_l02Frame.f k p) (frameL p) := by
  unfold spec_l02Frame.f
  have h2 : spec_l02Two.f (p.length : Int) = some (BE (p.length : Int) 2) := by
    unfold spec_l02Two.f
    rw [BE2, Int.tdiv_eq_ediv_of_nonneg (by omega), wrap_in (by omega) (by omega)]
  rw [h2]
  simp only [Option.bind_some, List.nil_append]
  refine ev_if_pos (by rw [BE_length]; show 0 + 2 < _; omega) (ev_if_pos (by rw [BE_length]; omega) ?_)
  have hc := crcV_range (BE (p.length : Int) 2 ++ p) ((Bytes.be _ _).app hb)
  refine ev_bind (spec_check_ev _ ((Bytes.be _ _).app hb) (by rw [List.length_append, BE_length]; omega)) ?_
  have h4 : spec_l02Four.f (crcV (BE (p.length : Int) 2 ++ p)) = some (BE (crcV (BE (p.length : Int) 2 ++ p)) 4) := by
    unfold spec_l02Four.f
    rw [BE4]
    congr 1
    generalize crcV (BE (p.length : Int) 2 ++ p) = c
    have e1 : c / 16777216 = c / 256 / 256 / 256 := by omega
    have e2 : c / 65536 = c / 256 / 256 := by omega
    rw [e1, e2]
  rw [h4]
  simp only [Option.bind_some]
  refine ev_if_pos (by rw [BE_length, BE_length]; omega) (ev_if_pos (by rw [List.length_append, BE_length, BE_length]; omega) (ev_some _))
theorem ext_nums (l : List Int) (a b : Nat) : (strOfNums l).extract a b = strOfNums ((l.take b).drop a) := by
  apply ByteArray.ext
  rw [ByteArray.data_extract]
  show ((l.map fun n => UInt8.ofNat n.toNat).toArray).extract a b = (((l.take b).drop a).map fun n => UInt8.ofNat n.toNat).toArray
  rw [List.extract_toArray]
  congr 1
  rw [List.extract_eq_take_drop, List.map_drop, List.map_take, List.drop_take]

theorem within_eq (a b c : Int) : impl_within.f a b c = some (decide (b ≤ a ∧ a ≤ c)) := by
  unfold impl_within.f
  split <;> simp only [Option.some.injEq] <;> rw [Bool.eq_iff_iff] <;> simp <;> omega
theorem numberOf2 (a b : Int) (ha : 0 ≤ a ∧ a < 256) (hb : 0 ≤ b ∧ b < 256) : Ev (fun k => impl_numberOf.f k (strOfNums [a, b])) (a * 256 + b) := by
  have b0 : bt (strOfNums [a, b]) ((0 : Nat) : Int) = a := bt_strOfNums [a, b] 0 (by simp) (by simpa using ha.1) (by simpa using ha.2)
  have b1 : bt (strOfNums [a, b]) ((1 : Nat) : Int) = b := bt_strOfNums [a, b] 1 (by simp) (by simpa using hb.1) (by simpa using hb.2)
  have hs : (strOfNums [a, b]).size = 2 := size_strOfNums _
  refine ⟨3, fun k hk => ?_⟩
  obtain ⟨k, rfl⟩ : ∃ q, k = q + 3 := ⟨k - 3, by omega⟩
  show impl_numberOf.f (k + 1 + 1 + 1) (strOfNums [a, b]) = _
  simp only [impl_numberOf.f, impl_numberOf.l0]
  rw [show ((0 : Nat) : Int) = 0 from rfl] at b0
  rw [show ((1 : Nat) : Int) = 1 from rfl] at b1
  have w0 : wrap64 (0 + 1) = 1 := wrap_in (by omega) (by omega)
  have w1 : wrap64 (1 + 1) = 2 := wrap_in (by omega) (by omega)
  have w2 : wrap64 (0 * 256) = 0 := wrap_in (by omega) (by omega)
  rw [hs, w0, w1, b0, b1, wrap_in (x := a) (by omega) (by omega), wrap_in (x := b) (by omega) (by omega), w2, Int.zero_add, wrap_in (x := a) (by omega) (by omega), wrap_in (x := a * 256) (by omega) (by omega), wrap_in (x := a * 256 + b) (by omega) (by omega)]
  rfl
theorem cut_eq (l : List Int) (n a b : Nat) : ((l.drop n).take b).drop a = (l.take (n + b)).drop (n + a) := by
  rw [List.take_drop, List.drop_drop]
theorem Bytes.sub {l : List Int} (h : Bytes l) (a b : Nat) : Bytes ((l.take b).drop a) := fun x hx => h x (List.mem_of_mem_take (List.mem_of_mem_drop hx))
theorem Bytes.rd {l : List Int} (h : Bytes l) (n : Nat) (hn : n < l.length) : 0 ≤ rd l (n : Int) ∧ rd l (n : Int) < 256 := h _ (rd_mem l n hn)
theorem wraps (L n z : Nat) (h : L ≤ 65536) (h1 : n ≤ L) (h2 : z ≤ 200) : wrap64 (6 + (z : Int)) = ((6 + z : Nat) : Int) ∧ wrap64 ((n : Int) + 6) = ((n + 6 : Nat) : Int) ∧ wrap64 (((n + 6 : Nat) : Int) + (z : Int)) = ((n + 6 + z : Nat) : Int) ∧
    wrap64 ((n : Int) + ((6 + z : Nat) : Int)) = ((n + 6 + z : Nat) : Int) ∧ wrap64 ((L : Int) - (n : Int) - 6) = (L : Int) - (n : Int) - 6 :=
  ⟨(wrap_in (by omega) (by omega)).trans (by omega), (wrap_in (by omega) (by omega)).trans (by omega), (wrap_in (by omega) (by omega)).trans (by omega), (wrap_in (by omega) (by omega)).trans (by omega), wrap_in (by omega) (by omega)⟩
theorem frames_both (l : List Int) (hb : Bytes l) (hl : l.length ≤ 65536) (m : Nat) : ∀ (n : Nat) (acc : List ByteArray), l.length - n ≤ m → n ≤ l.length → acc.length ≤ n →
    ∃ (r : List ByteArray) (p e : Int), Ev (fun k => spec_l02Frames.l0 k l acc (n : Int)) (r, p, e) ∧ Ev (fun k => impl_readFrames.l0 k (strOfNums l) acc (n : Int)) (r, p, e) ∧ r.length ≤ l.length := by
  induction m with
  | zero =>
    intro n acc hm hn ha
    have hn' : n = l.length := by omega
    refine ⟨acc, n, 0, ev_succ ?_, ev_succ ?_, by omega⟩
    · simp only [spec_l02Frames.l0]; exact ev_if_neg (by omega) (ev_some _)
    · simp only [impl_readFrames.l0]; exact ev_if_neg (by rw [size_strOfNums]; omega) (ev_some _)
  | succ m ih =>
    intro n acc hm hn ha
    by_cases hlt : n < l.length
    · have h1 : (n : Int) < (l.length : Int) := by omega
      have h0 : (0 : Int) ≤ (n : Int) := by omega
      have hs : (strOfNums l).size = l.length := size_strOfNums l
      have hex : (strOfNums l).extract n (strOfNums l).size = strOfNums (l.drop n) := by rw [hs, ext_nums, List.take_length]
      have hds : (strOfNums (l.drop n)).size = l.length - n := by rw [size_strOfNums, List.length_drop]
      have hwL : Aside0 (wrap64 ((l.length : Int) - (n : Int)) = (l.length : Int) - (n : Int)) := ⟨wrap_in (by omega) (by omega)⟩
      -- what the program does, told by what frameAt answers
      have impl_err : ∀ e : Int, e ≠ 0 → Ev (fun k => impl_frameAt.f k (strOfNums (l.drop n))) (((⟨#[]⟩ : ByteArray), e)) → Ev (fun k => impl_readFrames.l0 k (strOfNums l) acc (n : Int)) (acc, (n : Int), e) := fun e he h => by
        refine ev_succ ?_
        simp only [impl_readFrames.l0, Int.toNat_natCast, hex]
        exact ev_if_pos (by rw [hs]; exact h1) (ev_if_pos h0 (ev_if_pos (by rw [hs]; omega) (ev_bind h (ev_if_neg he (ev_some _)))))
      by_cases c1 : l.length - n < 6
      · refine ⟨acc, n, 16, ev_succ ?_, impl_err 16 (by omega) ?_, by omega⟩
        · simp only [spec_l02Frames.l0, hwL.out]
          exact ev_if_pos h1 (ev_if_pos (by omega) (ev_some _))
        · unfold impl_frameAt.f
          exact ev_if_pos (by rw [hds]; omega) (ev_some _)
      · have r0 := hb.rd n hlt
        have r1 := hb.rd (n + 1) (by omega)
        have hw1 : Aside0 (wrap64 ((n : Int) + 1) = ((n + 1 : Nat) : Int)) := ⟨by rw [wrap_in (by omega) (by omega)]; omega⟩
        obtain ⟨a, ha0⟩ : ∃ a, rd l (n : Int) = a := ⟨_, rfl⟩
        obtain ⟨b, hb0⟩ : ∃ b, rd l ((n + 1 : Nat) : Int) = b := ⟨_, rfl⟩
        rw [ha0] at r0
        rw [hb0] at r1
        have hz0_ : Aside0 (wrap64 (wrap64 (wrap64 a * 256) + wrap64 b) = a * 256 + b) := ⟨by
          rw [wrap_in (x := a) (by omega) (by omega), wrap_in (x := b) (by omega) (by omega), wrap_in (x := a * 256) (by omega) (by omega), wrap_in (by omega) (by omega)]⟩
        have htwo : (strOfNums (l.drop n)).extract 0 2 = strOfNums [a, b] := by
          rw [ext_nums, List.drop_zero, ← ha0, ← hb0]
          congr 1
          have e1 := rd_drop l n hlt
          have e2 := rd_drop l (n + 1) (by omega)
          rw [e1, e2]
          rfl
        have hnum : Ev (fun k => impl_numberOf.f k ((strOfNums (l.drop n)).extract 0 2)) (a * 256 + b) := by rw [htwo]; exact numberOf2 a b r0 r1
        obtain ⟨z, hzz⟩ : ∃ z : Nat, a * 256 + b = (z : Int) := Int.eq_ofNat_of_zero_le (by omega)
        have hz : Aside0 (wrap64 (wrap64 (wrap64 a * 256) + wrap64 b) = (z : Int)) := ⟨hz0_.out.trans hzz⟩
        clear hz0_
        rw [hzz] at hnum
        by_cases c2 : 1 ≤ z ∧ z ≤ 200
        · have c2' : decide ((1 : Int) ≤ (z : Int) ∧ (z : Int) ≤ 200) = true := decide_eq_true (by omega)
          have hz0 : ¬ (z : Int) = 0 := by omega
          have hz2 : decide ((z : Int) > 200) = false := decide_eq_false (by omega)
          have hW := Aside0.mk (wraps l.length n z (by omega) (by omega) (by omega))
          have spec_in : ∀ {r : List ByteArray × Int × Int}, Ev (fun k => spec_l02Frames.j1 k l acc (n : Int) (z : Int) false) r → Ev (fun k => spec_l02Frames.l0 k l acc (n : Int)) r := fun h => by
            refine ev_succ ?_
            simp only [spec_l02Frames.l0, hwL.out, hw1.out, ha0, hb0, hz.out, hz2]
            exact ev_if_pos h1 (ev_if_neg (by omega) (ev_if_pos h0 (ev_if_pos (by omega) (ev_if_pos (by omega) (ev_if_neg hz0 h)))))
          by_cases c3 : l.length - n < 6 + z
          · refine ⟨acc, n, 16, spec_in (ev_succ ?_), impl_err 16 (by omega) ?_, by omega⟩
            · simp only [spec_l02Frames.j1, hwL.out, hW.out.2.2.2.2]
              exact ev_if_neg (by simp) (ev_if_pos (by omega) (ev_some _))
            · unfold impl_frameAt.f
              refine ev_if_neg (by rw [hds]; omega) (ev_if_pos (by omega) (ev_if_pos (by rw [hds]; omega) (ev_bind hnum ?_)))
              simp only [within_eq, c2', hW.out.1, Option.bind_some]
              exact ev_if_pos trivial (ev_if_pos (by rw [hds]; omega) (ev_some _))
          · obtain ⟨p, hp⟩ : ∃ p, (l.take (n + 6 + z)).drop (n + 6) = p := ⟨_, rfl⟩
            obtain ⟨q, hq⟩ : ∃ q, (l.take (n + 6 + z)).drop n = q := ⟨_, rfl⟩
            have hpb : Bytes p := by rw [← hp]; exact hb.sub _ _
            have hpl : p.length = z := by rw [← hp, List.length_drop, List.length_take]; omega
            have hep : (strOfNums (l.drop n)).extract 6 (6 + z) = strOfNums p := by
              rw [ext_nums, cut_eq, ← hp, show n + (6 + z) = n + 6 + z by omega]
            have heq : (strOfNums (l.drop n)).extract 0 (6 + z) = strOfNums q := by
              rw [ext_nums, cut_eq, ← hq, show n + (6 + z) = n + 6 + z by omega, Nat.add_zero]
            have fi := impl_frame_ev p hpb (by omega)
            have fs := spec_frame_ev p hpb (by omega)
            have frame_in : ∀ {r : ByteArray × Int}, Ev (fun _ => if (strOfNums (frameL p)).toList = (strOfNums q).toList then some (strOfNums p, (0 : Int)) else some ((⟨#[]⟩ : ByteArray), 8)) r → Ev (fun k => impl_frameAt.f k (strOfNums (l.drop n))) r := fun h => by
              unfold impl_frameAt.f
              refine ev_if_neg (by rw [hds]; omega) (ev_if_pos (by omega) (ev_if_pos (by rw [hds]; omega) (ev_bind hnum ?_)))
              simp only [within_eq, c2', hW.out.1, Option.bind_some, Int.toNat_natCast, hep, heq]
              exact ev_if_pos trivial (ev_if_neg (by rw [hds]; omega) (ev_if_pos (by omega) (ev_if_pos (by rw [hds]; omega) (ev_bind fi (ev_if_pos (by omega) h)))))
            have spec_in2 : ∀ {r : List ByteArray × Int × Int}, Ev (fun k => if (strOfNums (frameL p)).toList = (strOfNums q).toList then (if acc.length < 8796093022208 then (spec_l02Frames.l0 k l (acc ++ [strOfNums p]) ((n + 6 + z : Nat) : Int)) else none) else some (acc, (n : Int), 8)) r → Ev (fun k => spec_l02Frames.l0 k l acc (n : Int)) r := fun h => by
              refine spec_in (ev_succ ?_)
              simp only [spec_l02Frames.j1, hwL.out, hW.out.2.2.2.2, hW.out.2.1, hW.out.2.2.1, hW.out.1, hW.out.2.2.2.1, Int.toNat_natCast, hp, hq]
              exact ev_if_neg (by simp) (ev_if_neg (by omega) (ev_if_pos (by omega) (ev_if_pos (by omega) (ev_if_pos (by omega) (ev_bind fs (ev_if_pos h0 (ev_if_pos (by omega) h)))))))
            by_cases c4 : (strOfNums (frameL p)).toList = (strOfNums q).toList
            · obtain ⟨r, pp, e, i1, i2, i3⟩ := ih (n + 6 + z) (acc ++ [strOfNums p]) (by omega) (by omega) (by rw [List.length_append]; show acc.length + 1 ≤ _; omega)
              refine ⟨r, pp, e, spec_in2 (ev_if_pos c4 (ev_if_pos (by omega) i1)), ev_succ ?_, i3⟩
              have hf : Ev (fun k => impl_frameAt.f k (strOfNums (l.drop n))) (strOfNums p, (0 : Int)) := frame_in (ev_if_pos c4 (ev_some _))
              have hps : ((strOfNums p).size : Int) = (z : Int) := by rw [size_strOfNums, hpl]
              simp only [impl_readFrames.l0, Int.toNat_natCast, hex]
              refine ev_if_pos (by rw [hs]; exact h1) (ev_if_pos h0 (ev_if_pos (by rw [hs]; omega) (ev_bind hf (ev_if_pos rfl (ev_if_pos (by omega) ?_)))))
              simp only [hps, hW.out.2.1, hW.out.2.2.1]
              exact i2
            · exact ⟨acc, n, 8, spec_in2 (ev_if_neg c4 (ev_some _)), impl_err 8 (by omega) (frame_in (ev_if_neg c4 (ev_some _))), by omega⟩
        · have c2' : decide ((1 : Int) ≤ (z : Int) ∧ (z : Int) ≤ 200) = false := decide_eq_false (by omega)
          have sbad : Ev (fun k => spec_l02Frames.j1 k l acc (n : Int) (z : Int) true) (acc, (n : Int), 8) := by
            refine ev_succ ?_
            simp only [spec_l02Frames.j1]
            exact ev_if_pos trivial (ev_some _)
          refine ⟨acc, n, 8, ev_succ ?_, impl_err 8 (by omega) ?_, by omega⟩
          · simp only [spec_l02Frames.l0, hwL.out, hw1.out, ha0, hb0, hz.out]
            refine ev_if_pos h1 (ev_if_neg (by omega) (ev_if_pos h0 (ev_if_pos (by omega) (ev_if_pos (by omega) ?_))))
            by_cases cz : (z : Int) = 0
            · exact ev_if_pos cz sbad
            · rw [decide_eq_true (show (z : Int) > 200 by omega)]
              exact ev_if_neg cz sbad
          · unfold impl_frameAt.f
            refine ev_if_neg (by rw [hds]; omega) (ev_if_pos (by omega) (ev_if_pos (by rw [hds]; omega) (ev_bind hnum ?_)))
            simp only [within_eq, c2', Option.bind_some]
            exact ev_if_neg (by simp) (ev_some _)
    · have hn' : n = l.length := by omega
      refine ⟨acc, n, 0, ev_succ ?_, ev_succ ?_, by omega⟩
      · simp only [spec_l02Frames.l0]; exact ev_if_neg (by omega) (ev_some _)
      · simp only [impl_readFrames.l0]; exact ev_if_neg (by rw [size_strOfNums]; omega) (ev_some _)

/-- A copy of bytes is the bytes. -/
theorem toByteS_ev (l : List Int) (hl : l.length ≤ 1048576) : Ev (fun k => laws_toByteS.f k l) l := by
  have key := ev_loop (fun k (s : List Int × Int) => laws_toByteS.l0 k l s.1 s.2) (fun s => 0 ≤ s.2 ∧ s.2 ≤ l.length ∧ s.1.length = l.length ∧ ∀ j : Nat, j < s.2.toNat → s.1[j]? = l[j]?) (fun s => l.length - s.2.toNat) (fun _ => l) (by
    rintro ⟨x, i⟩ ⟨h0, h1, h2, h3⟩
    by_cases hi : i < (l.length : Int)
    · right
      obtain ⟨hs1, hs2⟩ := copy_step l x i.toNat 0 h2 (by simp only at h0; omega) h3
      refine ⟨(x.set i.toNat (rd l i), i + 1), ⟨by simp only at h0 ⊢; omega, by simp only at h0 ⊢; omega, hs1, fun j hj => hs2 j (by simp only at h0 hj ⊢; omega)⟩, by simp only at h0 ⊢; omega, rfl, 0, fun j _ => ?_⟩
      show laws_toByteS.l0 (j + 1) l x i = _
      simp only at h0 h1 h2
      simp only [laws_toByteS.l0]
      rw [if_pos hi, if_pos h0, if_pos (by omega), wrap_in (by omega) (by omega)]
    · left
      refine ⟨0, fun j _ => ?_⟩
      show laws_toByteS.l0 (j + 1) l x i = _
      simp only at h0 h1 h2 h3
      simp only [laws_toByteS.l0]
      rw [if_neg hi, copy_end l x h2 (fun j hj => h3 j (by omega))])
  have := key (List.replicate l.length 0, 0) ⟨by simp, by simp, by simp, fun j hj => absurd hj (by simp)⟩
  refine ev_congr (fun k => ?_) this
  unfold laws_toByteS.f
  rw [if_pos (by omega), if_pos (by omega), Int.toNat_natCast]

theorem eqByteS_ev (l : List Int) (hl : l.length ≤ 1048576) : Ev (fun k => laws_eqByteS.f k l l) true := by
  have key := ev_loop (fun k (i : Int) => laws_eqByteS.l0 k l l i) (fun i => 0 ≤ i ∧ i ≤ l.length) (fun i => l.length - i.toNat) (fun _ => true) (by
    rintro i ⟨h0, h1⟩
    by_cases hi : i < (l.length : Int)
    · right
      refine ⟨i + 1, ⟨by omega, by omega⟩, by omega, rfl, 0, fun j _ => ?_⟩
      simp only [laws_eqByteS.l0]
      rw [if_pos hi, if_pos h0, if_pos hi, if_pos trivial, wrap_in (by omega) (by omega)]
    · left
      refine ⟨0, fun j _ => ?_⟩
      simp only [laws_eqByteS.l0]
      rw [if_neg hi])
  refine ev_congr (fun k => ?_) (key 0 ⟨by omega, by omega⟩)
  unfold laws_eqByteS.f
  rw [if_pos rfl]

theorem markByteS_from (n d : Nat) (hn : n ≤ 100000000) : ∀ (i : Nat) (x : List Int), i + d = n → x.length = n → ∃ y : List Int, y.length = n ∧ (∀ v ∈ y.drop i, 0 ≤ v ∧ v < 256) ∧ y.take i = x.take i ∧ Ev (fun k => laws_markByteS.l0 k x ((i : Int) + 1) (i : Int)) ((n : Int) + 1, y) := by
  induction d with
  | zero =>
    intro i x hi hx
    refine ⟨x, hx, fun v hv => by rw [List.drop_eq_nil_of_le (by omega)] at hv; simp at hv, rfl, ev_succ ?_⟩
    simp only [laws_markByteS.l0]
    rw [show (i : Int) = (n : Int) from by omega]
    exact ev_if_neg (by omega) (ev_some _)
  | succ d ih =>
    intro i x hi hx
    obtain ⟨y, hy, hr, ht, hev⟩ := ih (i + 1) (x.set i (((i : Int) + 1) % 256)) (by omega) (by rw [List.length_set]; exact hx)
    have w1 : Aside0 (wrap64 ((i : Int) + 1 + 1) = ((i + 1 : Nat) : Int) + 1) := ⟨(wrap_in (by omega) (by omega)).trans (by omega)⟩
    have w2 : Aside0 (wrap64 ((i : Int) + 1) = ((i + 1 : Nat) : Int)) := ⟨(wrap_in (by omega) (by omega)).trans (by omega)⟩
    refine ⟨y, hy, fun v hv => ?_, ?_, ev_succ ?_⟩
    · rw [List.drop_eq_getElem_cons (by omega)] at hv
      rcases List.mem_cons.1 hv with rfl | hv
      · have h1 : (y.take (i + 1))[i]? = ((x.set i (((i : Int) + 1) % 256)).take (i + 1))[i]? := by rw [ht]
        rw [List.getElem?_take_of_lt (by omega), List.getElem?_take_of_lt (by omega), List.getElem?_set_self (by omega), List.getElem?_eq_getElem (by omega)] at h1
        have h2 := Option.some.inj h1
        rw [h2]
        omega
      · exact hr v hv
    · have h1 : (y.take (i + 1)).take i = ((x.set i (((i : Int) + 1) % 256)).take (i + 1)).take i := by rw [ht]
      rw [List.take_take, List.take_take, Nat.min_eq_left (by omega), List.take_set_of_le (by omega)] at h1
      exact h1
    · simp only [laws_markByteS.l0, w1.out, w2.out, Int.toNat_natCast]
      exact ev_if_pos (by omega) (ev_if_pos (by omega) hev)
theorem markByteS_ev (l : List Int) (hl : l.length ≤ 100000000) : ∃ y : List Int, y.length = l.length ∧ (∀ v ∈ y, 0 ≤ v ∧ v < 256) ∧ Ev (fun k => laws_markByteS.f k l 1) ((l.length : Int) + 1, y) := by
  obtain ⟨y, h1, h2, _, h4⟩ := markByteS_from l.length l.length hl 0 l (by omega) rfl
  refine ⟨y, h1, by simpa using h2, ?_⟩
  unfold laws_markByteS.f
  exact h4

theorem eqStringS_from (l : List ByteArray) (hl : l.length ≤ 100000000) (d : Nat) : ∀ i : Nat, i + d = l.length → Ev (fun k => laws_eqStringS.l0 k l l (i : Int)) true := by
  induction d with
  | zero =>
    intro i hi
    refine ev_succ ?_
    simp only [laws_eqStringS.l0]
    exact ev_if_neg (by omega) (ev_some _)
  | succ d ih =>
    intro i hi
    have := ih (i + 1) (by omega)
    refine ev_succ ?_
    have w2 : Aside0 (wrap64 ((i : Int) + 1) = ((i + 1 : Nat) : Int)) := ⟨(wrap_in (by omega) (by omega)).trans (by omega)⟩
    simp only [laws_eqStringS.l0, w2.out]
    exact ev_if_pos (by omega) (ev_if_pos (by omega) (ev_if_pos (by omega) (ev_if_pos trivial this)))
theorem eqStringS_ev (l : List ByteArray) (hl : l.length ≤ 100000000) : Ev (fun k => laws_eqStringS.f k l l) true := by
  unfold laws_eqStringS.f
  exact ev_if_pos rfl (eqStringS_from l hl l.length 0 (by omega))

/-- Each number has a mark. -/
theorem markText_from (n : Nat) : ∀ (x : Int) (acc : ByteArray), x.toNat ≤ n → acc.size + n ≤ 4000000000 → ∃ t : ByteArray, Ev (fun k => laws_markText.l0 k x acc) t := by
  induction n with
  | zero =>
    intro x acc hx ha
    refine ⟨(⟨#[109]⟩ : ByteArray) ++ acc, ev_succ ?_⟩
    simp only [laws_markText.l0]
    exact ev_if_neg (by omega) (ev_if_pos (by omega) (ev_some _))
  | succ n ih =>
    intro x acc hx ha
    by_cases hp : x > 0
    · have hw : Aside0 (wrap64 (Int.tdiv x 10) = x / 10 ∨ ¬ x ≤ 9223372036854775807) := ⟨by
        rw [Int.tdiv_eq_ediv_of_nonneg (by omega)]
        by_cases h : x ≤ 9223372036854775807
        · exact .inl (wrap_in (by omega) (by omega))
        · exact .inr h⟩
      rcases hw.out with hq | hq
      · have hsz : (strOfNums [(wrap64 (48 + (Int.tmod x 10))) % 256]).size = 1 := size_strOfNums _
        obtain ⟨t, ht⟩ := ih (x / 10) (strOfNums [(wrap64 (48 + (Int.tmod x 10))) % 256] ++ acc) (by omega) (by rw [ByteArray.size_append, hsz]; omega)
        refine ⟨t, ev_succ ?_⟩
        simp only [laws_markText.l0, Option.bind_some, hq]
        exact ev_if_pos hp (ev_if_pos (by omega) ht)
      · exfalso; omega
    · refine ⟨(⟨#[109]⟩ : ByteArray) ++ acc, ev_succ ?_⟩
      simp only [laws_markText.l0]
      exact ev_if_neg hp (ev_if_pos (by omega) (ev_some _))
theorem markText_ex (x : Int) (hx : x ≤ 1000000000) : ∃ t : ByteArray, Ev (fun k => laws_markText.f k x) t := by
  unfold laws_markText.f
  by_cases h : x ≤ 0
  · exact ⟨_, ev_if_pos h (ev_some _)⟩
  · obtain ⟨t, ht⟩ := markText_from x.toNat x ⟨#[]⟩ (by omega) (by show 0 + _ ≤ _; omega)
    exact ⟨t, ev_if_neg h ht⟩
open Classical in
noncomputable def markT (x : Int) : ByteArray := if h : ∃ t : ByteArray, Ev (fun k => laws_markText.f k x) t then h.choose else ⟨#[]⟩
theorem markText_ev (x : Int) (hx : x ≤ 1000000000) : Ev (fun k => laws_markText.f k x) (markT x) := by
  unfold markT
  rw [dif_pos (markText_ex x hx)]
  exact (markText_ex x hx).choose_spec

/-- What the marks are. -/
noncomputable def marksT (n : Nat) : List ByteArray := (List.range n).map fun i => markT (((i : Nat) : Int) + 1)
theorem marksT_length (n : Nat) : (marksT n).length = n := by simp [marksT]
theorem marksT_get (n i : Nat) (h : i < n) : (marksT n).getD i ByteArray.empty = markT ((i : Int) + 1) := by
  unfold marksT
  rw [List.getD_eq_getElem?_getD, List.getElem?_map, List.getElem?_range h]
  rfl
theorem markStringS_from (n d : Nat) (hn : n ≤ 100000000) : ∀ (i : Nat) (x : List ByteArray), i + d = n → x.length = n → (∀ j, j < i → x[j]? = (marksT n)[j]?) → Ev (fun k => laws_markStringS.l0 k x ((i : Int) + 1) (i : Int)) ((n : Int) + 1, marksT n) := by
  have hml := marksT_length n
  induction d with
  | zero =>
    intro i x hi hx h
    refine ev_succ ?_
    simp only [laws_markStringS.l0]
    rw [show x = marksT n from copy_end (marksT n) x (by rw [hml]; exact hx) (fun j hj => h j (by rw [hml] at hj; omega)), show (i : Int) = (n : Int) from by omega]
    exact ev_if_neg (by rw [hml]; omega) (ev_some _)
  | succ d ih =>
    intro i x hi hx h
    obtain ⟨hs1, hs2⟩ := copy_step (marksT n) x i ByteArray.empty (by rw [hml]; exact hx) (by rw [hml]; omega) h
    rw [marksT_get n i (by omega)] at hs1 hs2
    rw [hml] at hs1
    have := ih (i + 1) _ (by omega) hs1 hs2
    refine ev_succ ?_
    have w1 : Aside0 (wrap64 ((i : Int) + 1 + 1) = ((i + 1 : Nat) : Int) + 1) := ⟨(wrap_in (by omega) (by omega)).trans (by omega)⟩
    have w2 : Aside0 (wrap64 ((i : Int) + 1) = ((i + 1 : Nat) : Int)) := ⟨(wrap_in (by omega) (by omega)).trans (by omega)⟩
    simp only [laws_markStringS.l0, w1.out, w2.out, Int.toNat_natCast]
    exact ev_if_pos (by omega) (ev_bind (markText_ev _ (by omega)) (ev_if_pos (by omega) this))
theorem markStringS_ev (l : List ByteArray) (hl : l.length ≤ 100000000) : Ev (fun k => laws_markStringS.f k l 1) ((l.length : Int) + 1, marksT l.length) := by
  unfold laws_markStringS.f
  exact markStringS_from l.length l.length hl 0 l (by omega) rfl (fun j hj => absurd hj (by omega))
theorem heldStringS_from (n d : Nat) (hn : n ≤ 100000000) : ∀ i : Nat, i + d = n → Ev (fun k => laws_heldStringS.l0 k (marksT n) ((i : Int) + 1) (i : Int)) ((n : Int) + 1) := by
  have hml := marksT_length n
  induction d with
  | zero =>
    intro i hi
    refine ev_succ ?_
    simp only [laws_heldStringS.l0]
    rw [show (i : Int) = (n : Int) from by omega]
    exact ev_if_neg (by rw [hml]; omega) (ev_some _)
  | succ d ih =>
    intro i hi
    have := ih (i + 1) (by omega)
    refine ev_succ ?_
    have w1 : Aside0 (wrap64 ((i : Int) + 1 + 1) = ((i + 1 : Nat) : Int) + 1) := ⟨(wrap_in (by omega) (by omega)).trans (by omega)⟩
    have w2 : Aside0 (wrap64 ((i : Int) + 1) = ((i + 1 : Nat) : Int)) := ⟨(wrap_in (by omega) (by omega)).trans (by omega)⟩
    have hr : rdOf ByteArray.empty (marksT n) (i : Int) = markT ((i : Int) + 1) := by
      unfold rdOf
      rw [Int.toNat_natCast]
      exact marksT_get n i (by omega)
    simp only [laws_heldStringS.l0, w1.out, w2.out, hr]
    exact ev_if_pos (by rw [hml]; omega) (ev_if_pos (by omega) (ev_bind (markText_ev _ (by omega)) (ev_if_pos rfl this)))
theorem heldStringS_ev (n : Nat) (hn : n ≤ 100000000) : Ev (fun k => laws_heldStringS.f k (marksT n) 1) ((n : Int) + 1) := by
  unfold laws_heldStringS.f
  exact heldStringS_from n n hn 0 (by omega)

theorem both_ReadFrames (l : List Int) (hb : Bytes l) (hl : l.length ≤ 1048576) : ∃ (r : List ByteArray) (p e : Int), Ev (fun k => spec_ReadFrames.f k l) (r, p, e) ∧ Ev (fun k => impl_ReadFrames.f k l) (r, p, e) ∧ r.length ≤ 1048576 := by
  by_cases h : (l.length : Int) > 65536
  · refine ⟨[], 0, 2, ?_, ?_, by simp⟩
    · unfold spec_ReadFrames.f
      exact ev_if_pos h (ev_some _)
    · unfold impl_ReadFrames.f
      exact ev_if_pos h (ev_some _)
  · obtain ⟨r, p, e, h1, h2, h3⟩ := frames_both l hb (by omega) l.length 0 [] (by omega) (by omega) (by simp)
    refine ⟨r, p, e, ?_, ?_, by omega⟩
    · unfold spec_ReadFrames.f spec_l02Frames.f
      exact ev_if_neg h (ev_bind h1 (ev_some _))
    · unfold impl_ReadFrames.f impl_readFrames.f
      exact ev_if_neg h (ev_bind h2 (ev_some _))
theorem FnExactReadFrames : laws_FnExactReadFrames.Pure := by
  intro l _ _ hwf
  refine Ev.rounds (r := true) ?_
  unfold laws_FnExactReadFrames.f
  by_cases h1 : (l.length : Int) > 1048576
  · exact ev_if_pos h1 (ev_some _)
  · have hl : l.length ≤ 1048576 := by omega
    have hb : Bytes l := fun x hx => by
      have h := hwf x hx
      simp only [Lit.wf, Bool.and_eq_true, decide_eq_true_eq] at h
      have h1 : IntKind.u8.min = 0 := rfl
      have h2 : IntKind.u8.max = 255 := rfl
      omega
    have ht := toByteS_ev l hl
    have he := eqByteS_ev l hl
    obtain ⟨r, p, e, hs, hi, hr⟩ := both_ReadFrames l hb hl
    obtain ⟨y, hy, _, hm⟩ := markByteS_ev l (by omega)
    have hq := eqStringS_ev r (by omega)
    have hk := markStringS_ev r (by omega)
    have hh := heldStringS_ev r.length (by omega)
    refine ev_if_neg h1 (ev_bind ht (ev_bind hs (ev_bind ht (ev_bind hi (ev_bind hq (ev_if_pos (by first | rfl | trivial) (ev_if_pos (by first | rfl | trivial) (ev_succ ?_))))))))
    simp only [laws_FnExactReadFrames.j0]
    refine ev_if_neg (by simp) (ev_bind ht (ev_bind he (ev_if_pos (by first | rfl | trivial) (ev_bind hm (ev_if_neg (by simp only; omega) (ev_bind hq (ev_if_pos (by first | rfl | trivial) (ev_if_pos (by first | rfl | trivial) (ev_succ ?_)))))))))
    simp only [laws_FnExactReadFrames.j1]
    refine ev_if_neg (by simp) (ev_bind hk (ev_bind hh (ev_if_neg (by omega) (ev_if_pos (by first | rfl | trivial) (ev_bind ht (ev_bind hi (ev_bind hq (ev_if_pos (by first | rfl | trivial) (ev_if_pos (by first | rfl | trivial) (ev_succ ?_))))))))))
    simp only [laws_FnExactReadFrames.j2]
    exact ev_if_neg (by simp) (ev_bind hh (ev_if_neg (by omega) (ev_if_pos (by first | rfl | trivial) (ev_some _))))
end Go.Proofs.Ytbkgjjiceldjeaa.Pure
