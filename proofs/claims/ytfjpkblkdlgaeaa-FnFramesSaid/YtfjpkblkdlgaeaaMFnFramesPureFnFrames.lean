/- Whole frames are read whole, cut frames to their start, a changed byte is seen: the plain form. No conditions. -/
import Derived.Test.YtfjpkblkdlgaeaaMFnFramesPx4
import Derived.Test.YtfjpkblkdlgaeaaMFnFramesU
import Derived.Laws.BitsAllLaws
namespace Go.Proofs.Ytfjpkblkdlgaeaa.Pure
open Go.RowKit Go.Proofs.Ytfjpkblkdlgaeaa.PFnFrames Go.Proofs.YtfjpkblkdlgaeaaW.PrintWords Go.Proofs.YtfjpkblkdlgaeaaW.PrintLast Go.Proofs.YtfjpkblkdlgaeaaW.PrintMore Go.Proofs.Ytfjpkblkdlgaeaa.U
set_option linter.unusedVariables false
set_option linter.unusedSimpArgs false
/-- One halving of the register. -/
def crcH (x : Nat) : Nat := if x % 2 = 1 then (x / 2) ^^^ 3988292384 else x / 2
def crc8 : Nat → Nat → Nat
  | 0, x => x
  | n + 1, x => crc8 n (crcH x)
def crcL : Nat → List Int → Nat
  | x, [] => x
  | x, b :: l => crcL (crc8 8 (x ^^^ b.toNat)) l
theorem crcH_lt {x : Nat} (h : x < 4294967296) : crcH x < 4294967296 := by
  unfold crcH
  split
  · exact Nat.xor_lt_two_pow (n := 32) (by omega) (by omega)
  · omega
theorem crc8_lt (n : Nat) : ∀ {x : Nat}, x < 4294967296 → crc8 n x < 4294967296 := by
  induction n with
  | zero => intro x h; exact h
  | succ n ih => intro x h; exact ih (crcH_lt h)
theorem spec_half (k : Nat) (l : List Int) (x : Nat) (hx : x < 4294967296) (i j : Int) (hj : 0 ≤ j ∧ j < 8) : spec_l01Check.l1 (k + 1) l (x : Int) i j = spec_l01Check.l1 k l ((crcH x : Nat) : Int) i (j + 1) := by
  simp only [spec_l01Check.l1]
  rw [if_pos hj.2, wrap_in (x := j + 1) (by omega) (by omega), Int.tmod_eq_emod_of_nonneg (by omega), Int.tdiv_eq_ediv_of_nonneg (by omega), wrap_in (x := (x : Int) / 2) (by omega) (by omega)]
  unfold crcH
  by_cases h : x % 2 = 1
  · rw [if_pos (by omega), if_pos h, i64_xor _ _ (by omega) (by omega) (by omega) (by omega)]
    rfl
  · rw [if_neg (by omega), if_neg h]
    rfl
theorem impl_half (k : Nat) (s : ByteArray) (x : Nat) (hx : x < 4294967296) (n i j : Int) (hj : 0 ≤ j ∧ j < 8) : impl_check32.l1 (k + 1) s (x : Int) n i j = impl_check32.l1 k s ((crcH x : Nat) : Int) n i (j + 1) := by
  simp only [impl_check32.l1]
  rw [if_pos hj.2, wrap_in (x := j + 1) (by omega) (by omega), u32_and _ _ (by omega) (by omega) (by omega) (by omega), Int.toNat_natCast, show Int.toNat 1 = 1 from rfl, nat_mask1]
  unfold crcH
  by_cases h : x % 2 = 1
  · rw [if_pos (by omega), if_pos h, u32_xor _ _ (by omega) (by omega) (by omega) (by omega)]
    rfl
  · rw [if_neg (by omega), if_neg h]
    rfl
theorem spec_halves (l : List Int) (i : Int) (n : Nat) : ∀ (k x : Nat) (j : Int), x < 4294967296 → 0 ≤ j → j + n = 8 → spec_l01Check.l1 (k + n + 1) l (x : Int) i j = spec_l01Check.l0 k l ((crc8 n x : Nat) : Int) (wrap64 (i + 1)) := by
  induction n with
  | zero =>
    intro k x j hx h0 h8
    simp only [spec_l01Check.l1]
    rw [if_neg (by omega)]
    rfl
  | succ n ih =>
    intro k x j hx h0 h8
    rw [show k + (n + 1) + 1 = (k + n + 1) + 1 from by omega, spec_half _ l x hx i j ⟨h0, by omega⟩]
    exact ih k (crcH x) (j + 1) (crcH_lt hx) (by omega) (by omega)
theorem impl_halves (s : ByteArray) (m i : Int) (n : Nat) : ∀ (k x : Nat) (j : Int), x < 4294967296 → 0 ≤ j → j + n = 8 → impl_check32.l1 (k + n + 1) s (x : Int) m i j = impl_check32.l0 k s ((crc8 n x : Nat) : Int) m (wrap64 (i + 1)) := by
  induction n with
  | zero =>
    intro k x j hx h0 h8
    simp only [impl_check32.l1]
    rw [if_neg (by omega)]
    rfl
  | succ n ih =>
    intro k x j hx h0 h8
    rw [show k + (n + 1) + 1 = (k + n + 1) + 1 from by omega, impl_half _ s x hx m i j ⟨h0, by omega⟩]
    exact ih k (crcH x) (j + 1) (crcH_lt hx) (by omega) (by omega)
theorem rd_drop (l : List Int) (i : Nat) (hi : i < l.length) : l.drop i = rd l (i : Int) :: l.drop (i + 1) := by
  unfold rd
  rw [Int.toNat_natCast, List.getD_eq_getElem?_getD, List.getElem?_eq_getElem hi, Option.getD_some]
  exact List.drop_eq_getElem_cons hi
theorem rd_byte (l : List Int) (hb : ∀ x ∈ l, 0 ≤ x ∧ x < 256) (i : Nat) (hi : i < l.length) : 0 ≤ rd l (i : Int) ∧ rd l (i : Int) < 256 := by
  unfold rd
  rw [Int.toNat_natCast, List.getD_eq_getElem?_getD, List.getElem?_eq_getElem hi, Option.getD_some]
  exact hb _ (List.getElem_mem hi)
theorem spec_from (l : List Int) (hb : ∀ x ∈ l, 0 ≤ x ∧ x < 256) (hl : l.length ≤ 1048576) (d : Nat) : ∀ (i x : Nat), i + d = l.length → x < 4294967296 → Ev (fun k => spec_l01Check.l0 k l (x : Int) (i : Int)) (((crcL x (l.drop i)) ^^^ 4294967295 : Nat) : Int) := by
  induction d with
  | zero =>
    intro i x hi hx
    refine ev_succ (ev_of_eq fun k => ?_)
    simp only [spec_l01Check.l0]
    rw [if_neg (by omega), i64_xor _ _ (by omega) (by omega) (by omega) (by omega), List.drop_eq_nil_of_le (by omega)]
    rfl
  | succ d ih =>
    intro i x hi hx
    have hlt : i < l.length := by omega
    have hr := rd_byte l hb i hlt
    obtain ⟨b, hbe⟩ := Int.eq_ofNat_of_zero_le hr.1
    have hb256 : b < 256 := by omega
    have hx2 : x ^^^ b < 4294967296 := Nat.xor_lt_two_pow (n := 32) (by omega) (by omega)
    rw [rd_drop l i hlt, hbe]
    show Ev _ (((crcL (crc8 8 (x ^^^ b)) (l.drop (i + 1))) ^^^ 4294967295 : Nat) : Int)
    obtain ⟨K, hK⟩ := ih (i + 1) (crc8 8 (x ^^^ b)) (by omega) (crc8_lt 8 hx2)
    refine ⟨K + 10, fun k hk => ?_⟩
    obtain ⟨m, rfl⟩ : ∃ m, k = (m + 8 + 1) + 1 := ⟨k - 10, by omega⟩
    show spec_l01Check.l0 ((m + 8 + 1) + 1) l (x : Int) (i : Int) = _
    simp only [spec_l01Check.l0]
    rw [if_pos (by omega), if_pos (by omega), hbe, wrap_in (by omega) (by omega), i64_xor _ _ (by omega) (by omega) (by omega) (by omega)]
    have := spec_halves l (i : Int) 8 m (x ^^^ b) 0 hx2 (by omega) (by omega)
    rw [show ((Int.toNat (x : Int)) ^^^ (Int.toNat (b : Int)) : Nat) = x ^^^ b from rfl, this, wrap_in (by omega) (by omega)]
    exact hK m (by omega)
theorem impl_from (l : List Int) (hb : ∀ x ∈ l, 0 ≤ x ∧ x < 256) (hl : l.length ≤ 1048576) (d : Nat) : ∀ (i x : Nat), i + d = l.length → x < 4294967296 → Ev (fun k => impl_check32.l0 k (strOfNums l) (x : Int) (l.length : Int) (i : Int)) (((crcL x (l.drop i)) ^^^ 4294967295 : Nat) : Int) := by
  induction d with
  | zero =>
    intro i x hi hx
    refine ev_succ (ev_of_eq fun k => ?_)
    have hx3 : crcL x [] ^^^ 4294967295 < 4294967296 := Nat.xor_lt_two_pow (n := 32) hx (by omega)
    simp only [impl_check32.l0]
    rw [if_neg (by omega), u32_xor _ _ (by omega) (by omega) (by omega) (by omega), List.drop_eq_nil_of_le (by omega), Nat.xor_comm]
    show some (wrap64 ((x ^^^ 4294967295 : Nat) : Int)) = some ((x ^^^ 4294967295 : Nat) : Int)
    rw [wrap_in (by omega) (by have : x ^^^ 4294967295 < 4294967296 := hx3; omega)]
  | succ d ih =>
    intro i x hi hx
    have hlt : i < l.length := by omega
    have hr := rd_byte l hb i hlt
    have hbt : bt (strOfNums l) (i : Int) = rd l (i : Int) := by
      unfold rd at hr ⊢
      rw [Int.toNat_natCast] at hr ⊢
      exact bt_strOfNums l i hlt hr.1 hr.2
    obtain ⟨b, hbe⟩ := Int.eq_ofNat_of_zero_le hr.1
    have hb256 : b < 256 := by omega
    have hx2 : x ^^^ b < 4294967296 := Nat.xor_lt_two_pow (n := 32) (by omega) (by omega)
    rw [rd_drop l i hlt, hbe]
    show Ev _ (((crcL (crc8 8 (x ^^^ b)) (l.drop (i + 1))) ^^^ 4294967295 : Nat) : Int)
    obtain ⟨K, hK⟩ := ih (i + 1) (crc8 8 (x ^^^ b)) (by omega) (crc8_lt 8 hx2)
    refine ⟨K + 10, fun k hk => ?_⟩
    obtain ⟨m, rfl⟩ : ∃ m, k = (m + 8 + 1) + 1 := ⟨k - 10, by omega⟩
    show impl_check32.l0 ((m + 8 + 1) + 1) (strOfNums l) (x : Int) (l.length : Int) (i : Int) = _
    simp only [impl_check32.l0]
    rw [if_pos (by omega), if_pos (by omega), if_pos (by rw [size_strOfNums]; omega), hbt, hbe, show (b : Int) % 4294967296 = (b : Int) from by omega, u32_xor _ _ (by omega) (by omega) (by omega) (by omega)]
    have := impl_halves (strOfNums l) (l.length : Int) (i : Int) 8 m (x ^^^ b) 0 hx2 (by omega) (by omega)
    rw [show ((Int.toNat (x : Int)) ^^^ (Int.toNat (b : Int)) : Nat) = x ^^^ b from rfl, this, wrap_in (by omega) (by omega)]
    exact hK m (by omega)
/-- The check of bytes. -/
def crcV (l : List Int) : Int := ((crcL 4294967295 l ^^^ 4294967295 : Nat) : Int)
theorem spec_check_ev (l : List Int) (hb : ∀ x ∈ l, 0 ≤ x ∧ x < 256) (hl : l.length ≤ 1048576) : Ev (fun k => spec_l01Check.f k l) (crcV l) :=
  spec_from l hb hl l.length 0 4294967295 (by omega) (by omega)
theorem impl_check_ev (l : List Int) (hb : ∀ x ∈ l, 0 ≤ x ∧ x < 256) (hl : l.length ≤ 1048576) : Ev (fun k => impl_check32.f k (strOfNums l)) (crcV l) := by
  have h := impl_from l hb hl l.length 0 4294967295 (by omega) (by omega)
  unfold impl_check32.f
  rw [size_strOfNums]
  exact h
theorem crcL_lt (l : List Int) (hb : ∀ x ∈ l, 0 ≤ x ∧ x < 256) : ∀ x, x < 4294967296 → crcL x l < 4294967296 := by
  induction l with
  | nil => intro x h; exact h
  | cons b r ih =>
    intro x h
    have h1 := hb b List.mem_cons_self
    refine ih (fun y hy => hb y (List.mem_cons_of_mem _ hy)) _ (crc8_lt 8 (Nat.xor_lt_two_pow (n := 32) (by omega) (by omega)))
theorem crcV_range (l : List Int) (hb : ∀ x ∈ l, 0 ≤ x ∧ x < 256) : 0 ≤ crcV l ∧ crcV l < 4294967296 := by
  unfold crcV
  have h := crcL_lt l hb 4294967295 (by omega)
  have h2 : crcL 4294967295 l ^^^ 4294967295 < 4294967296 := Nat.xor_lt_two_pow (n := 32) h (by omega)
  omega

/-- What the program's number writes. -/
theorem number_from (m : Nat) (hm : m ≤ 1000) (i : Nat) : ∀ (n : Int) (x : List Int), i ≤ m → x.length = m → Ev (fun k => impl_number.l0 k n x ((i : Int) - 1)) (strOfNums (BE n i ++ x.drop i)) := by
  induction i with
  | zero =>
    intro n x hi hx
    refine ev_succ (ev_of_eq fun k => ?_)
    simp only [impl_number.l0]
    rw [if_neg (by omega)]
    rfl
  | succ i ih =>
    intro n x hi hx
    have h := ih (n / 256) (x.set i (n % 256)) (by omega) (by rw [List.length_set, hx])
    have he : BE (n / 256) i ++ (x.set i (n % 256)).drop i = BE n (i + 1) ++ x.drop (i + 1) := by
      have hd : (x.set i (n % 256)).drop i = (n % 256) :: x.drop (i + 1) := by
        rw [List.drop_eq_getElem_cons (by rw [List.length_set]; omega), List.getElem_set_self, List.drop_set_of_lt (by omega)]
      rw [hd, BE, List.append_assoc]
      rfl
    rw [he] at h
    refine ev_succ (ev_congr (fun k => ?_) h)
    simp only [impl_number.l0]
    rw [show (((i + 1 : Nat) : Int) - 1) = (i : Int) from by omega, if_pos (by omega), if_pos (by omega), if_pos (by omega), Int.toNat_natCast, wrap_in (x := (i : Int) - 1) (by omega) (by omega)]
theorem number_ev (n : Int) (m : Nat) (hm : m ≤ 1000) : Ev (fun k => impl_number.f k n (m : Int)) (strOfNums (BE n m)) := by
  have h := number_from m hm m n (List.replicate m 0) (Nat.le_refl _) (by simp)
  rw [List.drop_of_length_le (by simp), List.append_nil] at h
  refine ev_congr (fun k => ?_) h
  unfold impl_number.f
  rw [if_pos (by omega), if_pos (by omega), Int.toNat_natCast, wrap_in (by omega) (by omega)]

def Bytes (l : List Int) : Prop := ∀ x ∈ l, 0 ≤ x ∧ x < 256
theorem Bytes.app {a b : List Int} (ha : Bytes a) (hb : Bytes b) : Bytes (a ++ b) := fun x hx => by
  rcases List.mem_append.1 hx with h | h
  · exact ha x h
  · exact hb x h
theorem Bytes.be (n : Int) (m : Nat) : Bytes (BE n m) := BE_range m n
/-- A frame: the size, the check of size and data, the data. -/
def frameL (p : List Int) : List Int := BE (p.length : Int) 2 ++ BE (crcV (BE (p.length : Int) 2 ++ p)) 4 ++ p
theorem frameL_length (p : List Int) : (frameL p).length = 6 + p.length := by
  unfold frameL
  rw [List.length_append, List.length_append, BE_length, BE_length]
theorem BE2 (n : Int) : BE n 2 = [n / 256 % 256, n % 256] := rfl
theorem BE4 (n : Int) : BE n 4 = [n / 256 / 256 / 256 % 256, n / 256 / 256 % 256, n / 256 % 256, n % 256] := rfl
theorem impl_frame_ev (p : List Int) (hb : Bytes p) (hl : p.length ≤ 1000000) : Ev (fun k => impl_frame.f k (strOfNums p)) (strOfNums (frameL p)) := by
  unfold impl_frame.f
  rw [size_strOfNums]
  have h1 := number_ev (p.length : Int) 2 (by omega)
  refine ev_bind h1 ?_
  refine ev_if_pos (by rw [size_strOfNums, BE_length]; omega) ?_
  rw [← strOfNums_append]
  refine ev_bind (impl_check_ev _ ((Bytes.be _ _).app hb) (by rw [List.length_append, BE_length]; omega)) ?_
  refine ev_bind (number_ev _ 4 (by omega)) ?_
  refine ev_if_pos (by rw [size_strOfNums, size_strOfNums, BE_length, BE_length]; omega) ?_
  refine ev_if_pos (by rw [size_strOfNums, size_strOfNums, BE_length, BE_length]; omega) ?_
  rw [← strOfNums_append, ← strOfNums_append]
  exact ev_some _
theorem spec_frame_ev (p : List Int) (hb : Bytes p) (hl : p.length ≤ 1000000) : Ev (fun k => spec_l02Frame.f k p) (frameL p) := by
  unfold spec_l02Frame.f
  have h2 : spec_l02Two.f (p.length : Int) = some (BE (p.length : Int) 2) := by
    unfold spec_l02Two.f
    rw [BE2, Int.tdiv_eq_ediv_of_nonneg (by omega), wrap_in (by omega) (by omega)]
  rw [h2]
  simp only [Option.bind_some, List.nil_append]
  refine ev_if_pos (by rw [BE_length]; show 0 + 2 < _; omega) (ev_if_pos (by rw [BE_length]; omega) ?_)
  have hc := crcV_range (BE (p.length : Int) 2 ++ p) ((Bytes.be _ _).app hb)
  refine ev_bind (spec_check_ev _ ((Bytes.be _ _).app hb) (by rw [List.length_append, BE_length]; omega)) ?_
  have h4 : spec_l02Four.f (crcV (BE (p.length : Int) 2 ++ p)) = some (BE (crcV (BE (p.length : Int) 2 ++ p)) 4) := by
    unfold spec_l02Four.f
    rw [BE4]
    congr 1
    generalize crcV (BE (p.length : Int) 2 ++ p) = c
    have e1 : c / 16777216 = c / 256 / 256 / 256 := by omega
    have e2 : c / 65536 = c / 256 / 256 := by omega
    rw [e1, e2]
  rw [h4]
  simp only [Option.bind_some]
  refine ev_if_pos (by rw [BE_length, BE_length]; omega) (ev_if_pos (by rw [List.length_append, BE_length, BE_length]; omega) (ev_some _))
theorem ext_nums (l : List Int) (a b : Nat) : (strOfNums l).extract a b = strOfNums ((l.take b).drop a) := by
  apply ByteArray.ext
  rw [ByteArray.data_extract]
  show ((l.map fun n => UInt8.ofNat n.toNat).toArray).extract a b = (((l.take b).drop a).map fun n => UInt8.ofNat n.toNat).toArray
  rw [List.extract_toArray]
  congr 1
  rw [List.extract_eq_take_drop, List.map_drop, List.map_take, List.drop_take]

theorem within_eq (a b c : Int) : impl_within.f a b c = some (decide (b ≤ a ∧ a ≤ c)) := by
  unfold impl_within.f
  split <;> simp only [Option.some.injEq] <;> rw [Bool.eq_iff_iff] <;> simp <;> omega
theorem numberOf2 (a b : Int) (ha : 0 ≤ a ∧ a < 256) (hb : 0 ≤ b ∧ b < 256) : Ev (fun k => impl_numberOf.f k (strOfNums [a, b])) (a * 256 + b) := by
  have b0 : bt (strOfNums [a, b]) ((0 : Nat) : Int) = a := bt_strOfNums [a, b] 0 (by simp) (by simpa using ha.1) (by simpa using ha.2)
  have b1 : bt (strOfNums [a, b]) ((1 : Nat) : Int) = b := bt_strOfNums [a, b] 1 (by simp) (by simpa using hb.1) (by simpa using hb.2)
  have hs : (strOfNums [a, b]).size = 2 := size_strOfNums _
  refine ⟨3, fun k hk => ?_⟩
  obtain ⟨k, rfl⟩ : ∃ q, k = q + 3 := ⟨k - 3, by omega⟩
  show impl_numberOf.f (k + 1 + 1 + 1) (strOfNums [a, b]) = _
  simp only [impl_numberOf.f, impl_numberOf.l0]
  rw [show ((0 : Nat) : Int) = 0 from rfl] at b0
  rw [show ((1 : Nat) : Int) = 1 from rfl] at b1
  have w0 : wrap64 (0 + 1) = 1 := wrap_in (by omega) (by omega)
  have w1 : wrap64 (1 + 1) = 2 := wrap_in (by omega) (by omega)
  have w2 : wrap64 (0 * 256) = 0 := wrap_in (by omega) (by omega)
  rw [hs, w0, w1, b0, b1, wrap_in (x := a) (by omega) (by omega), wrap_in (x := b) (by omega) (by omega), w2, Int.zero_add, wrap_in (x := a) (by omega) (by omega), wrap_in (x := a * 256) (by omega) (by omega), wrap_in (x := a * 256 + b) (by omega) (by omega)]
  rfl
theorem cut_eq (l : List Int) (n a b : Nat) : ((l.drop n).take b).drop a = (l.take (n + b)).drop (n + a) := by
  rw [List.take_drop, List.drop_drop]
theorem Bytes.sub {l : List Int} (h : Bytes l) (a b : Nat) : Bytes ((l.take b).drop a) := fun x hx => h x (List.mem_of_mem_take (List.mem_of_mem_drop hx))
theorem Bytes.rd {l : List Int} (h : Bytes l) (n : Nat) (hn : n < l.length) : 0 ≤ rd l (n : Int) ∧ rd l (n : Int) < 256 := h _ (rd_mem l n hn)
theorem wraps (L n z : Nat) (h : L ≤ 65536) (h1 : n ≤ L) (h2 : z ≤ 200) : wrap64 (6 + (z : Int)) = ((6 + z : Nat) : Int) ∧ wrap64 ((n : Int) + 6) = ((n + 6 : Nat) : Int) ∧ wrap64 (((n + 6 : Nat) : Int) + (z : Int)) = ((n + 6 + z : Nat) : Int) ∧
    wrap64 ((n : Int) + ((6 + z : Nat) : Int)) = ((n + 6 + z : Nat) : Int) ∧ wrap64 ((L : Int) - (n : Int) - 6) = (L : Int) - (n : Int) - 6 :=
  ⟨(wrap_in (by omega) (by omega)).trans (by omega), (wrap_in (by omega) (by omega)).trans (by omega), (wrap_in (by omega) (by omega)).trans (by omega), (wrap_in (by omega) (by omega)).trans (by omega), wrap_in (by omega) (by omega)⟩
theorem crcH_inj {x y : Nat} (hx : x < 4294967296) (hy : y < 4294967296) (h : crcH x = crcH y) : x = y := by
  have top : ∀ a b : Nat, a < 2147483648 → b < 2147483648 → a ^^^ 3988292384 ≠ b := fun a b ha hb he => by
    have h1 : (a ^^^ 3988292384).testBit 31 = b.testBit 31 := by rw [he]
    rw [Nat.testBit_xor, Nat.testBit_lt_two_pow (x := a) (i := 31) (by omega), Nat.testBit_lt_two_pow (x := b) (i := 31) (by omega)] at h1
    exact absurd h1 (by decide)
  unfold crcH at h
  by_cases p : x % 2 = 1 <;> by_cases q : y % 2 = 1
  · rw [if_pos p, if_pos q] at h
    have := congrArg (· ^^^ 3988292384) h
    simp only [Nat.xor_assoc, Nat.xor_self, Nat.xor_zero] at this
    omega
  · rw [if_pos p, if_neg q] at h
    exact absurd h (top _ _ (by omega) (by omega))
  · rw [if_neg p, if_pos q] at h
    exact absurd h.symm (top _ _ (by omega) (by omega))
  · rw [if_neg p, if_neg q] at h
    omega
theorem crc8_inj (n : Nat) : ∀ {x y : Nat}, x < 4294967296 → y < 4294967296 → crc8 n x = crc8 n y → x = y := by
  induction n with
  | zero => intro x y _ _ h; exact h
  | succ n ih => intro x y hx hy h; exact crcH_inj hx hy (ih (crcH_lt hx) (crcH_lt hy) h)
theorem xor_lt32 {x : Nat} (hx : x < 4294967296) (b : Int) (hb : 0 ≤ b ∧ b < 256) : x ^^^ b.toNat < 4294967296 := Nat.xor_lt_two_pow (n := 32) (by omega) (by omega)
theorem crcL_inj (l : List Int) (hb : ∀ x ∈ l, 0 ≤ x ∧ x < 256) : ∀ {x y : Nat}, x < 4294967296 → y < 4294967296 → crcL x l = crcL y l → x = y := by
  induction l with
  | nil => intro x y _ _ h; exact h
  | cons b l ih =>
    intro x y hx hy h
    have hb0 := hb b List.mem_cons_self
    have h1 := ih (fun z hz => hb z (List.mem_cons_of_mem _ hz)) (crc8_lt 8 (xor_lt32 hx b hb0)) (crc8_lt 8 (xor_lt32 hy b hb0)) h
    have h2 := crc8_inj 8 (xor_lt32 hx b hb0) (xor_lt32 hy b hb0) h1
    have := congrArg (· ^^^ b.toNat) h2
    simp only [Nat.xor_assoc, Nat.xor_self, Nat.xor_zero] at this
    exact this
theorem xor_left_inj (x a b : Nat) (h : x ^^^ a = x ^^^ b) : a = b := by
  have := congrArg (x ^^^ ·) h
  simp only [← Nat.xor_assoc, Nat.xor_self, Nat.zero_xor] at this
  exact this
theorem crcL_head (l : List Int) (hbl : ∀ x ∈ l, 0 ≤ x ∧ x < 256) (b v : Int) (hb0 : 0 ≤ b ∧ b < 256) (hv : 0 ≤ v ∧ v < 256) (x : Nat) (hx : x < 4294967296) (hne : b ≠ v) : crcL x (v :: l) ≠ crcL x (b :: l) := fun he => by
  have h1 := crcL_inj l hbl (crc8_lt 8 (xor_lt32 hx v hv)) (crc8_lt 8 (xor_lt32 hx b hb0)) he
  have h2 := xor_left_inj _ _ _ (crc8_inj 8 (xor_lt32 hx v hv) (xor_lt32 hx b hb0) h1)
  exact hne (by omega)
/-- One byte changed: another check. -/
theorem crcL_one (l : List Int) (hb : ∀ x ∈ l, 0 ≤ x ∧ x < 256) (v : Int) (hv : 0 ≤ v ∧ v < 256) : ∀ (i : Nat) (hi : i < l.length) (x : Nat), x < 4294967296 → l[i] ≠ v → crcL x (l.set i v) ≠ crcL x l := by
  induction l with
  | nil => intro i hi; exact absurd hi (Nat.not_lt_zero _)
  | cons b l ih =>
    intro i hi x hx hne
    have hb0 := hb b List.mem_cons_self
    have hbl : ∀ z ∈ l, 0 ≤ z ∧ z < 256 := fun z hz => hb z (List.mem_cons_of_mem _ hz)
    cases i with
    | zero => exact crcL_head l hbl b v hb0 hv x hx hne
    | succ i =>
      have hi2 : i < l.length := Nat.lt_of_succ_lt_succ hi
      have hx2 := crc8_lt 8 (xor_lt32 hx b hb0)
      have hne2 : l[i] ≠ v := hne
      generalize hq : crc8 8 (x ^^^ b.toNat) = q at hx2
      have h3 := ih hbl i hi2 q hx2 hne2
      rw [← hq] at h3
      exact h3
theorem xor_cast_inj (a b c : Nat) (h : ((a ^^^ c : Nat) : Int) = ((b ^^^ c : Nat) : Int)) : a = b := by
  have h1 : a ^^^ c = b ^^^ c := by omega
  have := congrArg (· ^^^ c) h1
  simp only [Nat.xor_assoc, Nat.xor_self, Nat.xor_zero] at this
  exact this
theorem crcV_one (l : List Int) (hb : ∀ x ∈ l, 0 ≤ x ∧ x < 256) (v : Int) (hv : 0 ≤ v ∧ v < 256) (i : Nat) (hi : i < l.length) (hne : l[i] ≠ v) : crcV (l.set i v) ≠ crcV l := fun h =>
  crcL_one l hb v hv i hi 4294967295 (by omega) hne (xor_cast_inj _ _ _ h)

theorem toList_ne (a b : List Int) (ha : Bytes a) (hb : Bytes b) (h : a ≠ b) : (strOfNums a).toList ≠ (strOfNums b).toList := fun he => by
  rw [ByteArray.toList_eq, ByteArray.toList_eq] at he
  have h1 : strOfNums a = strOfNums b := ByteArray.ext (Array.toList_inj.1 he)
  have h2 := congrArg bytesOf h1
  rw [bytesOf_strOfNums a ha, bytesOf_strOfNums b hb] at h2
  exact h h2
theorem BE2_small (z : Nat) (hz : z ≤ 200) : BE (z : Int) 2 = [0, (z : Int)] := by
  rw [BE2]
  have h1 : (z : Int) / 256 % 256 = 0 := by omega
  have h2 : (z : Int) % 256 = (z : Int) := by omega
  rw [h1, h2]
/-- What the program's frameAt answers at bytes whose first two tell a size of 1 to 200. -/
theorem frameAt_ev (s : List Int) (hb : Bytes s) (hl : s.length ≤ 65536) (z : Nat) (hz : 1 ≤ z ∧ z ≤ 200) (h6 : 6 ≤ s.length) (h2 : s.take 2 = BE (z : Int) 2) :
    (s.length < 6 + z → Ev (fun k => impl_frameAt.f k (strOfNums s)) ((⟨#[]⟩ : ByteArray), 16)) ∧
    (6 + z ≤ s.length → frameL ((s.take (6 + z)).drop 6) = s.take (6 + z) → Ev (fun k => impl_frameAt.f k (strOfNums s)) (strOfNums ((s.take (6 + z)).drop 6), 0)) ∧
    (6 + z ≤ s.length → frameL ((s.take (6 + z)).drop 6) ≠ s.take (6 + z) → Ev (fun k => impl_frameAt.f k (strOfNums s)) ((⟨#[]⟩ : ByteArray), 8)) := by
  have hds : (strOfNums s).size = s.length := size_strOfNums s
  have hnum : Ev (fun k => impl_numberOf.f k ((strOfNums s).extract 0 2)) (z : Int) := by
    rw [ext_nums, List.drop_zero, h2, BE2_small z hz.2]
    have := numberOf2 0 (z : Int) (by omega) (by omega)
    rwa [Int.zero_mul, Int.zero_add] at this
  have c2' : decide ((1 : Int) ≤ (z : Int) ∧ (z : Int) ≤ 200) = true := decide_eq_true (by omega)
  have hW := Aside0.mk (wraps s.length 0 z (by omega) (by omega) (by omega))
  refine ⟨fun c3 => ?_, fun c3 he => ?_, fun c3 he => ?_⟩
  · unfold impl_frameAt.f
    refine ev_if_neg (by rw [hds]; omega) (ev_if_pos (by omega) (ev_if_pos (by rw [hds]; omega) (ev_bind hnum ?_)))
    simp only [within_eq, c2', hW.out.1, Option.bind_some]
    exact ev_if_pos trivial (ev_if_pos (by rw [hds]; omega) (ev_some _))
  all_goals
    obtain ⟨p, hp⟩ : ∃ p, (s.take (6 + z)).drop 6 = p := ⟨_, rfl⟩
    obtain ⟨q, hq⟩ : ∃ q, s.take (6 + z) = q := ⟨_, rfl⟩
    have hpb : Bytes p := by rw [← hp]; exact hb.sub _ _
    have hqb : Bytes q := by rw [← hq]; exact fun x hx => hb x (List.mem_of_mem_take hx)
    have hpl : p.length = z := by rw [← hp, List.length_drop, List.length_take]; omega
    have hep : (strOfNums s).extract 6 (6 + z) = strOfNums p := by rw [ext_nums, hp]
    have heq : (strOfNums s).extract 0 (6 + z) = strOfNums q := by rw [ext_nums, hq, List.drop_zero]
    have fi := impl_frame_ev p hpb (by omega)
    have hfb : Bytes (frameL p) := ((Bytes.be _ 2).app (Bytes.be _ 4)).app hpb
    rw [hp, hq] at he
    have frame_in : ∀ {r : ByteArray × Int}, Ev (fun _ => if (strOfNums (frameL p)).toList = (strOfNums q).toList then some (strOfNums p, (0 : Int)) else some ((⟨#[]⟩ : ByteArray), 8)) r → Ev (fun k => impl_frameAt.f k (strOfNums s)) r := fun h => by
      unfold impl_frameAt.f
      refine ev_if_neg (by rw [hds]; omega) (ev_if_pos (by omega) (ev_if_pos (by rw [hds]; omega) (ev_bind hnum ?_)))
      simp only [within_eq, c2', hW.out.1, Option.bind_some, Int.toNat_natCast, hep, heq]
      exact ev_if_pos trivial (ev_if_neg (by rw [hds]; omega) (ev_if_pos (by omega) (ev_if_pos (by rw [hds]; omega) (ev_bind fi (ev_if_pos (by omega) h)))))
    try rw [hp]
    first
      | exact frame_in (ev_if_pos (by rw [he]) (ev_some _))
      | exact frame_in (ev_if_neg (toList_ne _ _ hfb hqb he) (ev_some _))
theorem frameL_bytes {p : List Int} (h : Bytes p) : Bytes (frameL p) := ((Bytes.be _ 2).app (Bytes.be _ 4)).app h
theorem frameL_take2 (p : List Int) : (frameL p).take 2 = BE (p.length : Int) 2 := by
  unfold frameL
  rw [List.append_assoc, List.take_append_of_le_length (by rw [BE_length]; omega), List.take_of_length_le (by rw [BE_length]; omega)]
theorem frameL_drop6 (p : List Int) : (frameL p).drop 6 = p := by
  unfold frameL
  rw [List.drop_left' (by rw [List.length_append, BE_length, BE_length])]
theorem BE4_inj (a b : Int) (ha : 0 ≤ a ∧ a < 4294967296) (hb : 0 ≤ b ∧ b < 4294967296) (h : BE a 4 = BE b 4) : a = b := by
  rw [BE4, BE4] at h
  simp only [List.cons.injEq, and_true] at h
  omega
/-- A whole frame, and what follows. -/
theorem frameAt_good (p r : List Int) (hp : Bytes p) (hr : Bytes r) (h1 : 1 ≤ p.length ∧ p.length ≤ 200) (hl : r.length ≤ 60000) : Ev (fun k => impl_frameAt.f k (strOfNums (frameL p ++ r))) (strOfNums p, 0) := by
  have hfl := frameL_length p
  have ht : (frameL p ++ r).take (6 + p.length) = frameL p := by rw [List.take_left' hfl]
  have h := (frameAt_ev (frameL p ++ r) ((frameL_bytes hp).app hr) (by rw [List.length_append]; omega) p.length h1 (by rw [List.length_append]; omega) (by rw [List.take_append_of_le_length (by omega), frameL_take2])).2.1 (by rw [List.length_append]; omega)
  rw [ht, frameL_drop6] at h
  exact h rfl
/-- A frame cut short. -/
theorem frameAt_cut (p : List Int) (hp : Bytes p) (h1 : 1 ≤ p.length ∧ p.length ≤ 200) (c : Nat) (hc : c < (frameL p).length) : Ev (fun k => impl_frameAt.f k (strOfNums ((frameL p).take c))) ((⟨#[]⟩ : ByteArray), 16) := by
  have hfl := frameL_length p
  have hcl : ((frameL p).take c).length = c := by rw [List.length_take]; omega
  by_cases h6 : c < 6
  · unfold impl_frameAt.f
    exact ev_if_pos (by rw [size_strOfNums, hcl]; omega) (ev_some _)
  · exact (frameAt_ev _ (fun x hx => frameL_bytes hp x (List.mem_of_mem_take hx)) (by omega) p.length h1 (by omega) (by rw [List.take_take, show min 2 c = 2 by omega, frameL_take2])).1 (by omega)
/-- A frame with one byte behind its size changed. -/
theorem frameL_bad (p : List Int) (hp : Bytes p) (j : Nat) (hj : 2 ≤ j) (w : Int) (hw : 0 ≤ w ∧ w < 256) (hjl : j < (frameL p).length) (hne : (frameL p)[j] ≠ w) :
    frameL (((frameL p).set j w).drop 6) ≠ (frameL p).set j w := by
  have hfl := frameL_length p
  intro he
  by_cases h6 : j < 6
  · rw [List.drop_set_of_lt h6, frameL_drop6] at he
    have h2 : (frameL p)[j]? = ((frameL p).set j w)[j]? := by rw [← he]
    rw [List.getElem?_set_self hjl, List.getElem?_eq_getElem hjl] at h2
    exact hne (by simpa using h2)
  · have hd : ((frameL p).set j w).drop 6 = p.set (j - 6) w := by rw [List.drop_set, if_neg h6, frameL_drop6]
    rw [hd] at he
    have hpj : j - 6 < p.length := by omega
    have hpe : (frameL p)[j] = p[j - 6] := by
      have h3 : (frameL p)[j]? = p[j - 6]? := by
        have h4 := congrArg (fun l : List Int => l[j - 6]?) (frameL_drop6 p)
        simp only [List.getElem?_drop] at h4
        rwa [show 6 + (j - 6) = j by omega] at h4
      rw [List.getElem?_eq_getElem hjl, List.getElem?_eq_getElem hpj] at h3
      simpa using h3
    have hpb2 : Bytes (p.set (j - 6) w) := fun x hx => by
      rcases List.mem_or_eq_of_mem_set hx with h | h
      · exact hp x h
      · rw [h]; exact hw
    have hsum : BE (crcV (BE (p.length : Int) 2 ++ p.set (j - 6) w)) 4 = BE (crcV (BE (p.length : Int) 2 ++ p)) 4 := by
      have h5 : ((frameL (p.set (j - 6) w)).take 6).drop 2 = (((frameL p).set j w).take 6).drop 2 := by rw [he]
      rw [List.take_set, List.set_eq_of_length_le (l := (frameL p).take 6) (by rw [List.length_take]; omega)] at h5
      have e6 : ∀ q : List Int, ((frameL q).take 6).drop 2 = BE (crcV (BE (q.length : Int) 2 ++ q)) 4 := fun q => by
        unfold frameL
        rw [List.take_left' (by rw [List.length_append, BE_length, BE_length]), List.drop_left' (by rw [BE_length])]
      rw [e6, e6, List.length_set] at h5
      exact h5
    have hcb := (Bytes.be (p.length : Int) 2).app hp
    have hcb2 := (Bytes.be (p.length : Int) 2).app hpb2
    have hv := BE4_inj _ _ (crcV_range _ hcb2) (crcV_range _ hcb) hsum
    have hset : BE (p.length : Int) 2 ++ p.set (j - 6) w = (BE (p.length : Int) 2 ++ p).set (2 + (j - 6)) w := by
      rw [List.set_append_right _ _ (by rw [BE_length]; omega), BE_length, show 2 + (j - 6) - 2 = j - 6 by omega]
    rw [hset] at hv
    refine crcV_one (BE (p.length : Int) 2 ++ p) hcb w hw (2 + (j - 6)) (by rw [List.length_append, BE_length]; omega) ?_ hv
    rw [List.getElem_append_right (by rw [BE_length]; omega)]
    simp only [BE_length]
    intro hx
    apply hne
    rw [hpe, ← hx]
    congr 1
    omega
theorem frameAt_bad (p r : List Int) (hp : Bytes p) (hr : Bytes r) (h1 : 1 ≤ p.length ∧ p.length ≤ 200) (hl : r.length ≤ 60000) (j : Nat) (hj : 2 ≤ j) (w : Int) (hw : 0 ≤ w ∧ w < 256) (hjl : j < (frameL p).length) (hne : (frameL p)[j] ≠ w) :
    Ev (fun k => impl_frameAt.f k (strOfNums ((frameL p).set j w ++ r))) ((⟨#[]⟩ : ByteArray), 8) := by
  have hfl := frameL_length p
  have hsl : ((frameL p).set j w).length = 6 + p.length := by rw [List.length_set, hfl]
  have hsb : Bytes ((frameL p).set j w) := fun x hx => by
    rcases List.mem_or_eq_of_mem_set hx with h | h
    · exact frameL_bytes hp x h
    · rw [h]; exact hw
  have ht : ((frameL p).set j w ++ r).take (6 + p.length) = (frameL p).set j w := by rw [List.take_left' hsl]
  have h := (frameAt_ev ((frameL p).set j w ++ r) (hsb.app hr) (by rw [List.length_append]; omega) p.length h1 (by rw [List.length_append]; omega) (by rw [List.take_append_of_le_length (by omega), List.take_set, List.set_eq_of_length_le (by rw [List.length_take]; omega), frameL_take2])).2.2 (by rw [List.length_append]; omega)
  rw [ht] at h
  exact h (frameL_bad p hp j hj w hw hjl hne)
/-- Frames, one behind the other. -/
def Bs (ds : List (List Int)) : List Int := (ds.map frameL).flatten
def Good (ds : List (List Int)) : Prop := ∀ d ∈ ds, Bytes d ∧ 1 ≤ d.length ∧ d.length ≤ 200
theorem Bs_cons (d : List Int) (ds : List (List Int)) : Bs (d :: ds) = frameL d ++ Bs ds := by unfold Bs; rw [List.map_cons, List.flatten_cons]
theorem Bs_append (a b : List (List Int)) : Bs (a ++ b) = Bs a ++ Bs b := by unfold Bs; rw [List.map_append, List.flatten_append]
theorem Bs_nil : Bs [] = [] := rfl
theorem Bs_bytes {ds : List (List Int)} (h : Good ds) : Bytes (Bs ds) := by
  induction ds with
  | nil => intro x hx; simp [Bs] at hx
  | cons d ds ih =>
    rw [Bs_cons]
    exact (frameL_bytes (h d List.mem_cons_self).1).app (ih fun x hx => h x (List.mem_cons_of_mem _ hx))
/-- The program's loop goes over whole frames. -/
theorem frames_over (r : List Int) (hr : Bytes r) (X : List ByteArray × Int × Int) (ds : List (List Int)) : ∀ (pre : List Int) (acc : List ByteArray), Good ds → (pre ++ (Bs ds ++ r)).length ≤ 60000 → acc.length + ds.length ≤ 60000 →
    Ev (fun k => impl_readFrames.l0 k (strOfNums (pre ++ (Bs ds ++ r))) (acc ++ ds.map strOfNums) (((pre ++ Bs ds).length : Nat) : Int)) X →
    Ev (fun k => impl_readFrames.l0 k (strOfNums (pre ++ (Bs ds ++ r))) acc ((pre.length : Nat) : Int)) X := by
  induction ds with
  | nil =>
    intro pre acc hg hl ha h
    rw [Bs_nil, List.append_nil, List.map_nil, List.append_nil] at h
    exact h
  | cons d ds ih =>
    intro pre acc hg hl ha h
    obtain ⟨hdb, hd1, hd2⟩ := hg d List.mem_cons_self
    have hgt : Good ds := fun x hx => hg x (List.mem_cons_of_mem _ hx)
    have hfl := frameL_length d
    have e1 : pre ++ (Bs (d :: ds) ++ r) = (pre ++ frameL d) ++ (Bs ds ++ r) := by rw [Bs_cons]; simp only [List.append_assoc]
    have e2 : pre ++ Bs (d :: ds) = (pre ++ frameL d) ++ Bs ds := by rw [Bs_cons, List.append_assoc]
    have e3 : acc ++ (d :: ds).map strOfNums = (acc ++ [strOfNums d]) ++ ds.map strOfNums := by rw [List.map_cons, List.append_assoc]; rfl
    rw [e1] at h hl ⊢
    rw [e2, e3] at h
    have h2 := ih (pre ++ frameL d) (acc ++ [strOfNums d]) hgt hl (by simp only [List.length_append, List.length_cons, List.length_nil] at ha ⊢; omega) h
    have hlen : ((pre ++ frameL d) ++ (Bs ds ++ r)).length = pre.length + (6 + d.length) + (Bs ds ++ r).length := by rw [List.length_append, List.length_append, hfl]
    have hfa := frameAt_good d (Bs ds ++ r) hdb ((Bs_bytes hgt).app hr) ⟨hd1, hd2⟩ (by omega)
    have hex : (strOfNums ((pre ++ frameL d) ++ (Bs ds ++ r))).extract pre.length (strOfNums ((pre ++ frameL d) ++ (Bs ds ++ r))).size = strOfNums (frameL d ++ (Bs ds ++ r)) := by
      rw [size_strOfNums, ext_nums, List.take_length, List.append_assoc pre, List.drop_left]
    rw [← hex] at hfa
    have hw1 : Aside0 (wrap64 (wrap64 ((pre.length : Int) + 6) + ((strOfNums d).size : Int)) = (((pre ++ frameL d).length : Nat) : Int)) := ⟨by
      rw [size_strOfNums, List.length_append, hfl, wrap_in (x := (pre.length : Int) + 6) (by omega) (by omega), wrap_in (by omega) (by omega)]
      omega⟩
    refine ev_succ ?_
    simp only [impl_readFrames.l0, Int.toNat_natCast]
    refine ev_if_pos (by rw [size_strOfNums, hlen]; omega) (ev_if_pos (by omega) (ev_if_pos (by rw [size_strOfNums, hlen]; omega) (ev_bind hfa (ev_if_pos rfl (ev_if_pos (by simp only [List.length_cons] at ha; omega) ?_)))))
    simp only [hw1.out]
    exact h2
/-- Whole frames, then one that is not: what the program's loop answers. -/
theorem frames_stop (ds : List (List Int)) (hg : Good ds) (s : List Int) (hs : Bytes s) (h0 : s ≠ []) (hl : (Bs ds ++ s).length ≤ 60000) (hd : ds.length ≤ 60000) (e : Int) (he : e ≠ 0) (h : Ev (fun k => impl_frameAt.f k (strOfNums s)) ((⟨#[]⟩ : ByteArray), e)) :
    Ev (fun k => impl_ReadFrames.f k (Bs ds ++ s)) (ds.map strOfNums, ((Bs ds).length : Int), e) := by
  have hsl : 0 < s.length := List.length_pos_iff.2 h0
  unfold impl_ReadFrames.f impl_readFrames.f
  refine ev_if_neg (by omega) (ev_bind (a := (ds.map strOfNums, ((Bs ds).length : Int), e)) ?_ (ev_some _))
  refine frames_over s hs _ ds [] [] hg hl (by simpa using hd) ?_
  rw [List.nil_append, List.nil_append, List.nil_append]
  have hex : (strOfNums (Bs ds ++ s)).extract (Bs ds).length (strOfNums (Bs ds ++ s)).size = strOfNums s := by
    rw [size_strOfNums, ext_nums, List.take_length, List.drop_left]
  rw [← hex] at h
  refine ev_succ ?_
  simp only [impl_readFrames.l0, Int.toNat_natCast]
  exact ev_if_pos (by rw [size_strOfNums, List.length_append]; omega) (ev_if_pos (by omega) (ev_if_pos (by rw [size_strOfNums, List.length_append]; omega) (ev_bind h (ev_if_neg he (ev_some _)))))
theorem frames_all (ds : List (List Int)) (hg : Good ds) (hl : (Bs ds).length ≤ 60000) (hd : ds.length ≤ 60000) : Ev (fun k => impl_ReadFrames.f k (Bs ds)) (ds.map strOfNums, ((Bs ds).length : Int), 0) := by
  unfold impl_ReadFrames.f impl_readFrames.f
  refine ev_if_neg (by omega) (ev_bind (a := (ds.map strOfNums, ((Bs ds).length : Int), 0)) ?_ (ev_some _))
  have h := frames_over [] (fun x hx => by simp at hx) (ds.map strOfNums, ((Bs ds).length : Int), 0) ds [] [] hg (by simpa using hl) (by simpa using hd)
  rw [List.append_nil, List.nil_append, List.nil_append] at h
  refine h (ev_succ ?_)
  simp only [impl_readFrames.l0]
  exact ev_if_neg (by rw [size_strOfNums]; omega) (ev_some _)

/-- What a drawn source is: how far it has been read, and a seed. -/
def SrcOK (c : List Int) (a b : Int) (n : Nat) : Prop := 0 ≤ a ∧ a ≤ (n : Int) ∧ 0 ≤ b ∧ b < 2147483648
/-- One more byte. -/
theorem byte_src (c : List Int) (hc : ∀ x ∈ c, 0 ≤ x ∧ x < 256) (a b : Int) (n : Nat) (hn : n ≤ 10000) (h : SrcOK c a b n) : ∃ r a' b', spec_l00Src_byte.f c a b = some (r, a', b') ∧ 0 ≤ r ∧ r < 256 ∧ SrcOK c a' b' (n + 1) := by
  obtain ⟨h1, h2, h3, h4⟩ := h
  unfold spec_l00Src_byte.f
  rw [if_pos ⟨h1, by omega, h3, h4⟩]
  by_cases g : a + 1 ≤ (c.length : Int)
  · have hr : 0 ≤ rd c a ∧ rd c a < 256 := by
      obtain ⟨i, rfl⟩ := Int.eq_ofNat_of_zero_le h1
      unfold rd
      rw [Int.toNat_natCast, List.getD_eq_getElem?_getD, List.getElem?_eq_getElem (by omega), Option.getD_some]
      exact hc _ (List.getElem_mem _)
    rw [if_pos g, if_pos hr]
    exact ⟨_, _, _, rfl, hr.1, hr.2, by omega, by omega, by omega, by omega⟩
  · rw [if_neg g]
    by_cases g2 : 3000 < a + 1
    · rw [if_pos g2]
      exact ⟨_, _, _, rfl, by omega, by omega, by omega, by omega, h3, h4⟩
    · rw [if_neg g2]
      exact ⟨_, _, _, rfl, by omega, by omega, by omega, by omega, by omega, by omega⟩
/-- One of 0 to m - 1. -/
theorem next_src (c : List Int) (hc : ∀ x ∈ c, 0 ≤ x ∧ x < 256) (a b : Int) (n : Nat) (hn : n ≤ 9000) (m : Int) (hm1 : 1 ≤ m) (hm : m ≤ 256) (h : SrcOK c a b n) : ∃ r a' b', spec_l00Src_next.f c a b m = some (r, a', b') ∧ 0 ≤ r ∧ r < m ∧ SrcOK c a' b' (n + 1) := by
  unfold spec_l00Src_next.f
  by_cases g : m ≤ 1
  · rw [if_pos g]
    obtain ⟨h1, h2, h3, h4⟩ := h
    exact ⟨0, a, b, rfl, Int.le_refl _, by omega, h1, by omega, h3, h4⟩
  · rw [if_neg g, if_pos hm]
    obtain ⟨r, a', b', e, r0, r1, h'⟩ := byte_src c hc a b n (by omega) h
    rw [e]
    simp only [Option.bind_some]
    rw [if_neg (by omega)]
    have ht : Int.tmod r m = r % m := Int.tmod_eq_emod_of_nonneg r0
    rw [ht]
    exact ⟨_, _, _, rfl, Int.emod_nonneg _ (by omega), Int.emod_lt_of_pos _ (by omega), h'⟩
theorem src_new (c : List Int) : SrcOK c 0 ((c.length : Int) % 1000) 0 := by
  generalize (c.length : Int) = q
  have h1 := Int.emod_nonneg q (b := 1000) (by omega)
  have h2 := Int.emod_lt_of_pos q (b := 1000) (by omega)
  generalize q % 1000 = z at h1 h2 ⊢
  exact ⟨Int.le_refl _, Int.le_refl _, h1, by omega⟩
theorem source_some (c : List Int) : ∃ z, spec_l00Source.f c = some (c, 0, z) ∧ SrcOK c 0 z 0 := ⟨_, rfl, src_new c⟩

theorem at_some (l : List Int) (hc : ∀ x ∈ l, 0 ≤ x ∧ x < 256) (i : Int) (hi : 0 ≤ i ∧ i ≤ 1000) (n : Int) (hn : n ≤ 1000000) (hl : l.length ≤ 1048576) : ∃ r, laws_at.f l i n = some r ∧ 0 ≤ r ∧ (1 ≤ n → r < n) := by
  unfold laws_at.f
  by_cases h : n ≤ 1
  · rw [if_pos h]; exact ⟨0, rfl, Int.le_refl _, fun _ => by omega⟩
  · rw [if_neg h]
    by_cases h0 : (l.length : Int) = 0
    · have w : wrap64 (i * 7) = i * 7 := wrap_in (by omega) (by omega)
      have ht : Int.tmod (i * 7) n = i * 7 % n := Int.tmod_eq_emod_of_nonneg (by omega)
      rw [if_pos h0, if_neg (by omega), w, ht]
      exact ⟨_, rfl, Int.emod_nonneg _ (by omega), fun _ => Int.emod_lt_of_pos _ (by omega)⟩
    · rw [if_neg h0]
      have hlp : 0 < (l.length : Int) := by omega
      have byte : ∀ j : Int, 0 ≤ rd l (j % (l.length : Int)) ∧ rd l (j % (l.length : Int)) < 256 := fun j => by
        have g0 : 0 ≤ j % (l.length : Int) := Int.emod_nonneg _ h0
        have g1 : j % (l.length : Int) < (l.length : Int) := Int.emod_lt_of_pos _ hlp
        obtain ⟨m, hm⟩ := Int.eq_ofNat_of_zero_le g0
        rw [hm] at g1 ⊢
        unfold rd
        rw [Int.toNat_natCast, List.getD_eq_getElem?_getD, List.getElem?_eq_getElem (by omega), Option.getD_some]
        exact hc _ (List.getElem_mem _)
      have w1 : wrap64 (i + 1) = i + 1 := wrap_in (by omega) (by omega)
      have t1 : Int.tmod i (l.length : Int) = i % (l.length : Int) := Int.tmod_eq_emod_of_nonneg hi.1
      have t2 : Int.tmod (i + 1) (l.length : Int) = (i + 1) % (l.length : Int) := Int.tmod_eq_emod_of_nonneg (by omega)
      have t3 : Int.tdiv i (l.length : Int) = i / (l.length : Int) := Int.tdiv_eq_ediv_of_nonneg hi.1
      have d0 : 0 ≤ i / (l.length : Int) := Int.ediv_nonneg hi.1 (by omega)
      have d1 : i / (l.length : Int) ≤ 1000 := Int.le_trans (Int.ediv_le_self _ hi.1) hi.2
      obtain ⟨b1, b2⟩ := byte i
      obtain ⟨b3, b4⟩ := byte (i + 1)
      rw [w1, t1, t2, t3, if_pos (Int.emod_nonneg _ h0), if_pos (Int.emod_lt_of_pos _ hlp), if_pos (Int.emod_nonneg _ h0), if_pos (Int.emod_lt_of_pos _ hlp), if_neg (by omega)]
      generalize rd l (i % (l.length : Int)) = u at *
      generalize rd l ((i + 1) % (l.length : Int)) = v at *
      generalize i / (l.length : Int) = z at *
      clear w1 t1 t2 t3
      have y1 : wrap64 u = u := wrap_in (by omega) (by omega)
      have y2 : wrap64 v = v := wrap_in (by omega) (by omega)
      have y3 : wrap64 z = z := wrap_in (by omega) (by omega)
      rw [y1, y2, y3]
      clear y1 y2 y3
      have y4 : wrap64 (u * 31) = u * 31 := wrap_in (by omega) (by omega)
      rw [y4]
      clear y4
      have y5 : wrap64 (u * 31 + v) = u * 31 + v := wrap_in (by omega) (by omega)
      rw [y5]
      clear y5
      have y6 : wrap64 (u * 31 + v + z) = u * 31 + v + z := wrap_in (by omega) (by omega)
      rw [y6]
      clear y6
      have ht : Int.tmod (u * 31 + v + z) n = (u * 31 + v + z) % n := Int.tmod_eq_emod_of_nonneg (by omega)
      rw [ht]
      exact ⟨_, rfl, Int.emod_nonneg _ (by omega), fun _ => Int.emod_lt_of_pos _ (by omega)⟩

theorem sameTexts_from (l : List ByteArray) (hl : l.length ≤ 100000000) (d : Nat) : ∀ i : Nat, i + d = l.length → Ev (fun k => laws_sameTexts.l0 k l l (i : Int)) true := by
  induction d with
  | zero =>
    intro i hi
    refine ev_succ ?_
    simp only [laws_sameTexts.l0]
    exact ev_if_neg (by omega) (ev_some _)
  | succ d ih =>
    intro i hi
    have := ih (i + 1) (by omega)
    refine ev_succ ?_
    have w2 : Aside0 (wrap64 ((i : Int) + 1) = ((i + 1 : Nat) : Int)) := ⟨(wrap_in (by omega) (by omega)).trans (by omega)⟩
    simp only [laws_sameTexts.l0, w2.out]
    exact ev_if_pos (by omega) (ev_if_pos (by omega) (ev_if_pos (by omega) (ev_if_pos trivial this)))
theorem sameTexts_ev (l : List ByteArray) (hl : l.length ≤ 100000000) : Ev (fun k => laws_sameTexts.f k l l) true := by
  unfold laws_sameTexts.f
  exact ev_if_pos rfl (sameTexts_from l hl l.length 0 (by omega))

theorem srcBytes_l0 (c : List Int) (hc : ∀ x ∈ c, 0 ≤ x ∧ x < 256) (d : Nat) : ∀ (l : List Int) (i a b : Int) (n : Nat), i ≤ (d : Int) → Bytes l → l.length + d ≤ 900 → n + d ≤ 7000 → SrcOK c a b n →
    ∃ r a' b', Ev (fun k => spec_l00Src_bytes.l0 k l i c a b) (r, a', b') ∧ Bytes r ∧ r.length ≤ l.length + d := by
  induction d with
  | zero =>
    intro l i a b n hi hl hb hn hs
    refine ⟨l, a, b, ev_succ ?_, hl, by omega⟩
    simp only [spec_l00Src_bytes.l0]
    exact ev_if_neg (by omega) (ev_some _)
  | succ d ih =>
    intro l i a b n hi hl hb hn hs
    by_cases g : i > 0
    · obtain ⟨r, a', b', e, r0, r1, h'⟩ := next_src c hc a b n (by omega) 256 (by omega) (by omega) hs
      have w : wrap64 (i - 1) = i - 1 := wrap_in (by omega) (by omega)
      have hx : Bytes (l ++ [r % 256]) := hl.app fun x hx => by rw [List.mem_singleton.1 hx]; omega
      obtain ⟨r2, a2, b2, e2, hr2, hl2⟩ := ih (l ++ [r % 256]) (i - 1) a' b' (n + 1) (by omega) hx (by simp only [List.length_append, List.length_cons, List.length_nil]; omega) (by omega) h'
      refine ⟨r2, a2, b2, ev_succ ?_, hr2, by simp only [List.length_append, List.length_cons, List.length_nil] at hl2; omega⟩
      simp only [spec_l00Src_bytes.l0, e, Option.bind_some, w]
      exact ev_if_pos g (ev_if_pos (by omega) e2)
    · refine ⟨l, a, b, ev_succ ?_, hl, by omega⟩
      simp only [spec_l00Src_bytes.l0]
      exact ev_if_neg g (ev_some _)
theorem bytesOf_ev (c : List Int) (hc : ∀ x ∈ c, 0 ≤ x ∧ x < 256) : ∃ r, Ev (fun k => spec_BytesOf.f k c 20) r ∧ Bytes r ∧ r.length ≤ 20 := by
  obtain ⟨z, ez, hs⟩ := source_some c
  have w : wrap64 (20 + 1) = 21 := wrap_in (by omega) (by omega)
  obtain ⟨q, a1, b1, e1, q0, q1, h1⟩ := next_src c hc 0 z 0 (by omega) 21 (by omega) (by omega) hs
  obtain ⟨r, a3, b3, e3, hr, hl3⟩ := srcBytes_l0 c hc 20 [] q a1 b1 1 (by omega) (fun y hy => by simp at hy) (by simp) (by omega) h1
  refine ⟨r, ?_, hr, by simpa using hl3⟩
  unfold spec_BytesOf.f
  rw [ez]
  simp only [Option.bind_some]
  refine ev_bind (a := (r, a3, b3)) ?_ (ev_some _)
  unfold spec_l00Src_bytes.f
  rw [w, e1]
  exact e3
/-- Where the frames begin, and where the last ends. -/
def offL (ds : List (List Int)) : List Int := (List.range (ds.length + 1)).map fun i => ((Bs (ds.take i)).length : Int)
theorem offL_length (ds : List (List Int)) : (offL ds).length = ds.length + 1 := by unfold offL; rw [List.length_map, List.length_range]
theorem offL_rd (ds : List (List Int)) (i : Nat) (hi : i ≤ ds.length) : rd (offL ds) (i : Int) = ((Bs (ds.take i)).length : Int) := by
  unfold rd offL
  rw [Int.toNat_natCast, List.getD_eq_getElem?_getD, List.getElem?_map, List.getElem?_range (by omega)]
  rfl
theorem offL_snoc (ds : List (List Int)) (d : List Int) : offL (ds ++ [d]) = offL ds ++ [((Bs (ds ++ [d])).length : Int)] := by
  unfold offL
  rw [List.length_append, List.length_singleton, List.range_succ (n := ds.length + 1), List.map_append, List.map_singleton]
  congr 1
  · apply List.map_congr_left
    intro i hi
    rw [List.take_append_of_le_length (by have := List.mem_range.1 hi; omega)]
  · rw [List.take_of_length_le (by rw [List.length_append]; exact Nat.le_refl _)]
def Small (ds : List (List Int)) : Prop := ∀ d ∈ ds, Bytes d ∧ 1 ≤ d.length ∧ d.length ≤ 21
theorem Small.good {ds : List (List Int)} (h : Small ds) : Good ds := fun d hd => ⟨(h d hd).1, (h d hd).2.1, by have := (h d hd).2.2; omega⟩
theorem Small.size {ds : List (List Int)} (h : Small ds) : (Bs ds).length ≤ 27 * ds.length := by
  induction ds with
  | nil => exact Nat.le_refl _
  | cons d ds ih =>
    have h1 := (h d List.mem_cons_self).2.2
    have h2 := ih fun x hx => h x (List.mem_cons_of_mem _ hx)
    rw [Bs_cons, List.length_append, frameL_length, List.length_cons]
    omega
theorem off_split (ds : List (List Int)) (t : Nat) (ht : t < ds.length) : Bs ds = Bs (ds.take t) ++ (frameL ds[t] ++ Bs (ds.drop (t + 1))) := by
  have h : ds = ds.take t ++ (ds[t] :: ds.drop (t + 1)) := by rw [← List.drop_eq_getElem_cons ht, List.take_append_drop]
  rw [← Bs_cons, ← Bs_append, ← h]
theorem off_next (ds : List (List Int)) (t : Nat) (ht : t < ds.length) : (Bs (ds.take (t + 1))).length = (Bs (ds.take t)).length + (6 + ds[t].length) := by
  rw [List.take_succ_eq_append_getElem ht, Bs_append, List.length_append, Bs_cons, Bs_nil, List.append_nil, frameL_length]
theorem off_mono (ds : List (List Int)) (a b : Nat) (h : a ≤ b) : (Bs (ds.take a)).length ≤ (Bs (ds.take b)).length := by
  have e : ds.take a = (ds.take b).take a := by rw [List.take_take, Nat.min_eq_left h]
  have e2 : Bs (ds.take b) = Bs (ds.take a) ++ Bs ((ds.take b).drop a) := by rw [← Bs_append, e, List.take_append_drop]
  rw [e2, List.length_append]
  omega
/-- The frame that a cut falls into. -/
theorem off_find (ds : List (List Int)) (c : Nat) (hc : c < (Bs ds).length) : ∃ i, i < ds.length ∧ (Bs (ds.take i)).length ≤ c ∧ c < (Bs (ds.take (i + 1))).length := by
  have h : ∀ m, m ≤ ds.length → c < (Bs (ds.take m)).length → ∃ i, i < m ∧ (Bs (ds.take i)).length ≤ c ∧ c < (Bs (ds.take (i + 1))).length := by
    intro m
    induction m with
    | zero => intro _ h; rw [List.take_zero, Bs_nil] at h; exact absurd h (Nat.not_lt_zero _)
    | succ m ih =>
      intro hm h
      by_cases g : c < (Bs (ds.take m)).length
      · obtain ⟨i, h1, h2⟩ := ih (by omega) g
        exact ⟨i, by omega, h2⟩
      · exact ⟨m, by omega, by omega, h⟩
  exact h ds.length (Nat.le_refl _) (by rw [List.take_length]; exact hc)
theorem xor_ne (a m : Int) (ha : 0 ≤ a ∧ a < 256) (hm : 1 ≤ m ∧ m < 256) : 0 ≤ Go.bits .xor .u8 a m ∧ Go.bits .xor .u8 a m < 256 ∧ a ≠ Go.bits .xor .u8 a m := by
  have hx : Go.bits .xor .u8 a m = ((a.toNat ^^^ m.toNat : Nat) : Int) := u8_xor a m ha.1 ha.2 (by omega) hm.2
  have hlt : a.toNat ^^^ m.toNat < 256 := Nat.xor_lt_two_pow (n := 8) (by omega) (by omega)
  refine ⟨by omega, by omega, fun he => ?_⟩
  have h1 : a.toNat ^^^ m.toNat = a.toNat ^^^ 0 := by rw [Nat.xor_zero]; omega
  have := xor_left_inj _ _ _ h1
  omega
/-- The last part: one byte changed behind a frame's size. -/
theorem law_j5 (x1 : List Int) (hx1 : ∀ x ∈ x1, 0 ≤ x ∧ x < 256) (hl1 : x1.length ≤ 1048576) (ds : List (List Int)) (hs : Small ds) (h0 : 1 ≤ ds.length) (h5 : ds.length ≤ 5) :
    Ev (fun k => laws_FnFrames.j5 k x1 (ds.map strOfNums) (Bs ds) (offL ds) false) true := by
  have hsz := hs.size
  have hml : (ds.map strOfNums).length = ds.length := List.length_map _
  obtain ⟨t', et, t0, t1⟩ := at_some x1 hx1 2 (by omega) ((ds.map strOfNums).length : Int) (by omega) hl1
  have t1 := t1 (by omega)
  obtain ⟨t, rfl⟩ := Int.eq_ofNat_of_zero_le t0
  have ht : t < ds.length := by omega
  obtain ⟨hdb, hd1, hd2⟩ := hs ds[t] (List.getElem_mem ht)
  have hnx := off_next ds t ht
  have hsp := off_split ds t ht
  have hfl := frameL_length ds[t]
  have ho1 := off_mono ds (t + 1) ds.length (by omega)
  rw [List.take_length] at ho1
  have r0 := offL_rd ds t (by omega)
  have r1 := offL_rd ds (t + 1) (by omega)
  generalize hA : (Bs (ds.take t)).length = A at *
  generalize hB : (Bs (ds.take (t + 1))).length = B at *
  have w1 : Aside0 (wrap64 ((t : Int) + 1) = ((t + 1 : Nat) : Int)) := ⟨(wrap_in (by omega) (by omega)).trans (by omega)⟩
  obtain ⟨n, hn⟩ : ∃ n : Int, (B : Int) - (A : Int) - 2 = n := ⟨_, rfl⟩
  have w2 : Aside0 (wrap64 (wrap64 ((B : Int) - (A : Int)) - 2) = n) := ⟨by
    rw [wrap_in (x := (B : Int) - (A : Int)) (by omega) (by omega), wrap_in (by omega) (by omega)]
    exact hn⟩
  obtain ⟨o', eo, o0, o1⟩ := at_some x1 hx1 4 (by omega) n (by omega) hl1
  have o1 := o1 (by omega)
  obtain ⟨o, rfl⟩ := Int.eq_ofNat_of_zero_le o0
  have w3 : Aside0 (wrap64 (wrap64 ((A : Int) + 2) + (o : Int)) = ((A + (2 + o) : Nat) : Int)) := ⟨by
    rw [wrap_in (x := (A : Int) + 2) (by omega) (by omega), wrap_in (by omega) (by omega)]
    omega⟩
  obtain ⟨v', ev, v0, v1⟩ := at_some x1 hx1 3 (by omega) 255 (by omega) hl1
  have v1 := v1 (by omega)
  have w4 : Aside0 (wrap64 (1 + v') % 256 = 1 + v') := ⟨by rw [wrap_in (by omega) (by omega)]; omega⟩
  have hj : 2 + o < (frameL ds[t]).length := by omega
  have hrd : Aside0 (rd (Bs ds) ((A + (2 + o) : Nat) : Int) = (frameL ds[t])[2 + o]) := ⟨by
    unfold rd
    rw [Int.toNat_natCast, List.getD_eq_getElem?_getD, hsp, List.getElem?_append_right (by omega), hA, List.getElem?_append_left (by omega), show A + (2 + o) - A = 2 + o by omega, List.getElem?_eq_getElem hj]
    rfl⟩
  have hby := frameL_bytes hdb _ (List.getElem_mem hj)
  obtain ⟨xw0, xw1, xne⟩ := xor_ne _ (1 + v') hby ⟨by omega, by omega⟩
  have hset : (Bs ds).set (A + (2 + o)) (Go.bits .xor .u8 ((frameL ds[t])[2 + o]) (1 + v')) = Bs (ds.take t) ++ ((frameL ds[t]).set (2 + o) (Go.bits .xor .u8 ((frameL ds[t])[2 + o]) (1 + v')) ++ Bs (ds.drop (t + 1))) := by
    rw [hsp, List.set_append_right _ _ (by omega), hA, show A + (2 + o) - A = 2 + o by omega, List.set_append_left _ _ hj]
  obtain ⟨w, hw⟩ : ∃ w, Go.bits .xor .u8 ((frameL ds[t])[2 + o]) (1 + v') = w := ⟨_, rfl⟩
  rw [hw] at xw0 xw1 xne hset
  have hgt : Good (ds.take t) := fun x hx => hs.good x (List.mem_of_mem_take hx)
  have hgd : Good (ds.drop (t + 1)) := fun x hx => hs.good x (List.mem_of_mem_drop hx)
  have hln : (Bs ds).length = A + ((frameL ds[t]).length + (Bs (ds.drop (t + 1))).length) := by rw [hsp, List.length_append, List.length_append, hA]
  have hbad := frameAt_bad ds[t] (Bs (ds.drop (t + 1))) hdb (Bs_bytes hgd) ⟨hd1, by omega⟩ (by omega) (2 + o) (by omega) w ⟨xw0, xw1⟩ hj xne
  have hsb : Bytes ((frameL ds[t]).set (2 + o) w ++ Bs (ds.drop (t + 1))) := Bytes.app (fun x hx => by
    rcases List.mem_or_eq_of_mem_set hx with h | h
    · exact frameL_bytes hdb x h
    · rw [h]; exact ⟨xw0, xw1⟩) (Bs_bytes hgd)
  have hread := frames_stop (ds.take t) hgt _ hsb (fun h => by have := congrArg List.length h; simp only [List.length_append, List.length_set, List.length_nil] at this; omega)
    (by simp only [List.length_append, List.length_set]; omega) (by rw [List.length_take]; omega) 8 (by omega) hbad
  rw [← hset, hA] at hread
  have hst := sameTexts_ev ((ds.take t).map strOfNums) (by rw [List.length_map, List.length_take]; omega)
  refine ev_succ ?_
  simp only [laws_FnFrames.j5, et, Option.bind_some, w1.out, r0, r1, w2.out]
  refine ev_if_neg (by simp) (ev_if_pos (by omega) (ev_if_pos (by rw [offL_length]; omega) (ev_if_pos (by omega) (ev_if_pos (by rw [offL_length]; omega) (ev_bind (ev_of_eq fun _ => eo) ?_)))))
  generalize hW3 : wrap64 (wrap64 ((A : Int) + 2) + (o : Int)) = W3
  have hW3' : W3 = ((A + (2 + o) : Nat) : Int) := hW3.symm.trans w3.out
  clear hW3
  subst hW3'
  refine ev_if_pos (by omega) (ev_if_pos (by omega) (ev_bind (ev_of_eq fun _ => ev) ?_))
  rw [w4.out, hrd.out, hw, Int.toNat_natCast]
  refine ev_bind hread (ev_if_pos (by first | rfl | trivial) (ev_if_pos (by first | rfl | trivial) (ev_if_pos (by omega) ?_)))
  rw [Int.toNat_natCast, ← List.map_take]
  exact ev_bind hst (ev_some _)
/-- The middle part: the frames cut short. -/
theorem law_l1 (x1 : List Int) (hx1 : ∀ x ∈ x1, 0 ≤ x ∧ x < 256) (hl1 : x1.length ≤ 1048576) (ds : List (List Int)) (hs : Small ds) (h0 : 1 ≤ ds.length) (h5 : ds.length ≤ 5) (c i : Nat) (hi : i < ds.length) (hc1 : (Bs (ds.take i)).length ≤ c) (hc2 : c < (Bs (ds.take (i + 1))).length) (e : Int) (he : e = 0 ↔ c = (Bs (ds.take i)).length) (m : Nat) :
    ∀ j : Nat, j + m = i → Ev (fun k => laws_FnFrames.l1 k x1 (ds.map strOfNums) (Bs ds) (offL ds) (c : Int) ((ds.take i).map strOfNums) ((Bs (ds.take i)).length : Int) e (j : Int)) true := by
  induction m with
  | zero =>
    intro j hj
    have hj : j = i := by omega
    subst hj
    have w1 : wrap64 ((j : Int) + 1) = ((j + 1 : Nat) : Int) := (wrap_in (by omega) (by omega)).trans (by omega)
    have r0 := offL_rd ds j (by omega)
    have r1 := offL_rd ds (j + 1) (by omega)
    have hst := sameTexts_ev ((ds.take j).map strOfNums) (by rw [List.length_map, List.length_take]; omega)
    have hml : (ds.map strOfNums).length = ds.length := List.length_map _
    have hj4 : Ev (fun k => laws_FnFrames.j4 k x1 (ds.map strOfNums) (Bs ds) (offL ds) (c : Int) ((ds.take j).map strOfNums) ((Bs (ds.take j)).length : Int) e (j : Int)) true := by
      have hx : ((e == 0) != ((c : Int) == ((Bs (ds.take j)).length : Int))) = false := by
        by_cases q : e = 0
        · have := he.1 q
          rw [← this, q]
          simp
        · have hne : ¬ (c : Int) = ((Bs (ds.take j)).length : Int) := fun h => q (he.2 (by omega))
          rw [beq_eq_false_iff_ne.mpr q, beq_eq_false_iff_ne.mpr hne]
          rfl
      refine ev_succ ?_
      simp only [laws_FnFrames.j4, r0, hx, Int.toNat_natCast]
      refine ev_if_pos (by omega) (ev_if_pos (by rw [offL_length]; omega) (ev_if_pos trivial (ev_if_pos (by omega) ?_)))
      rw [← List.map_take]
      exact ev_bind hst (ev_if_pos (by first | rfl | trivial) (law_j5 x1 hx1 hl1 ds hs h0 h5))
    refine ev_succ ?_
    simp only [laws_FnFrames.l1, w1, r1]
    exact ev_if_pos (by rw [offL_length]; omega) (ev_if_pos (by omega) (ev_if_neg (by omega) hj4))
  | succ m ih =>
    intro j hj
    have h := ih (j + 1) (by omega)
    have w1 : wrap64 ((j : Int) + 1) = ((j + 1 : Nat) : Int) := (wrap_in (by omega) (by omega)).trans (by omega)
    have r1 := offL_rd ds (j + 1) (by omega)
    have hm := off_mono ds (j + 1) i (by omega)
    refine ev_succ ?_
    simp only [laws_FnFrames.l1, w1, r1]
    exact ev_if_pos (by rw [offL_length]; omega) (ev_if_pos (by omega) (ev_if_pos (by omega) h))
theorem law_j2 (x1 : List Int) (hx1 : ∀ x ∈ x1, 0 ≤ x ∧ x < 256) (hl1 : x1.length ≤ 1048576) (ds : List (List Int)) (hs : Small ds) (h0 : 1 ≤ ds.length) (h5 : ds.length ≤ 5) :
    Ev (fun k => laws_FnFrames.j2 k x1 (ds.map strOfNums) (Bs ds) (offL ds) false) true := by
  have hsz := hs.size
  have hpos : 1 ≤ (Bs ds).length := by
    have h1 := off_split ds 0 (by omega)
    have h2 := congrArg List.length h1
    rw [List.length_append, List.length_append, frameL_length] at h2
    omega
  obtain ⟨c', ec, c0, c1⟩ := at_some x1 hx1 1 (by omega) ((Bs ds).length : Int) (by omega) hl1
  have c1 := c1 (by omega)
  obtain ⟨c, rfl⟩ := Int.eq_ofNat_of_zero_le c0
  obtain ⟨i, hi, hc1, hc2⟩ := off_find ds c (by omega)
  have hsp := off_split ds i hi
  have hnx := off_next ds i hi
  have hfl := frameL_length ds[i]
  obtain ⟨hdb, hd1, hd2⟩ := hs ds[i] (List.getElem_mem hi)
  have hgt : Good (ds.take i) := fun x hx => hs.good x (List.mem_of_mem_take hx)
  have htk : (Bs ds).take c = Bs (ds.take i) ++ (frameL ds[i]).take (c - (Bs (ds.take i)).length) := by
    rw [hsp, List.take_append, List.take_of_length_le hc1, List.take_append_of_le_length (by omega)]
  have hread : ∃ e : Int, (e = 0 ↔ c = (Bs (ds.take i)).length) ∧ Ev (fun k => impl_ReadFrames.f k ((Bs ds).take c)) ((ds.take i).map strOfNums, ((Bs (ds.take i)).length : Int), e) := by
    by_cases g : c = (Bs (ds.take i)).length
    · refine ⟨0, ⟨fun _ => g, fun _ => rfl⟩, ?_⟩
      rw [htk, show c - (Bs (ds.take i)).length = 0 by omega, List.take_zero, List.append_nil]
      exact frames_all _ hgt (by omega) (by rw [List.length_take]; omega)
    · refine ⟨16, ⟨fun h => absurd h (by omega), fun h => absurd h g⟩, ?_⟩
      rw [htk]
      refine frames_stop _ hgt _ (fun x hx => frameL_bytes hdb x (List.mem_of_mem_take hx)) (fun h => ?_) ?_ (by rw [List.length_take]; omega) 16 (by omega) (frameAt_cut ds[i] hdb ⟨hd1, by omega⟩ _ (by omega))
      · have := congrArg List.length h
        rw [List.length_take, List.length_nil] at this
        omega
      · rw [List.length_append, List.length_take]
        omega
  obtain ⟨e, he, hread⟩ := hread
  refine ev_succ ?_
  simp only [laws_FnFrames.j2, ec, Option.bind_some, Int.toNat_natCast]
  refine ev_if_neg (by simp) (ev_if_pos (by omega) (ev_if_pos (by omega) (ev_bind hread ?_)))
  exact law_l1 x1 hx1 hl1 ds hs h0 h5 c i hi hc1 hc2 e he i 0 (by omega)
theorem law_l0 (x0 x1 : List Int) (hx0 : Bytes x0) (hl0 : x0.length ≤ 1048576) (hx1 : ∀ x ∈ x1, 0 ≤ x ∧ x < 256) (hl1 : x1.length ≤ 1048576) (q : Int) (eq_ : laws_at.f x1 0 5 = some q) (q0 : 0 ≤ q) (q1 : q < 5) (d : Nat) :
    ∀ ds : List (List Int), Small ds → (ds.length : Int) + d = 1 + q → Ev (fun k => laws_FnFrames.l0 k x0 x1 (ds.map strOfNums) (Bs ds) (offL ds) (ds.length : Int)) true := by
  have w0 : Aside0 (wrap64 (1 + q) = 1 + q) := ⟨wrap_in (by omega) (by omega)⟩
  induction d with
  | zero =>
    intro ds hs hd
    have hsz := hs.size
    have hall := frames_all ds hs.good (by omega) (by omega)
    have hst := sameTexts_ev (ds.map strOfNums) (by rw [List.length_map]; omega)
    refine ev_succ ?_
    simp only [laws_FnFrames.l0, eq_, Option.bind_some, w0.out]
    exact ev_if_neg (by omega) (ev_bind hall (ev_if_pos (by first | rfl | trivial) (ev_if_pos (by first | rfl | trivial) (ev_bind hst (law_j2 x1 hx1 hl1 ds hs (by omega) (by omega))))))
  | succ d ih =>
    intro ds hs hd
    have hsz := hs.size
    have hml : (ds.map strOfNums).length = ds.length := List.length_map _
    have hib : Bytes [(ds.length : Int) % 256] := fun x hx => by rw [List.mem_singleton.1 hx]; omega
    obtain ⟨r, er, hr, hrl⟩ := bytesOf_ev ([(ds.length : Int) % 256] ++ x0) (hib.app hx0)
    obtain ⟨p, hp⟩ : ∃ p, r ++ [(ds.length : Int) % 256] = p := ⟨_, rfl⟩
    have hpb : Bytes p := by rw [← hp]; exact hr.app hib
    have hpl : 1 ≤ p.length ∧ p.length ≤ 21 := by rw [← hp, List.length_append, List.length_singleton]; omega
    have hs2 : Small (ds ++ [p]) := fun x hx => by
      rcases List.mem_append.1 hx with h | h
      · exact hs x h
      · rw [List.mem_singleton.1 h]; exact ⟨hpb, hpl⟩
    have hfl := frameL_length p
    have hfb := frameL_bytes hpb
    have hsp : Ev (fun k => spec_FrameBytes.f k p) (frameL p, 0) := by
      unfold spec_FrameBytes.f
      exact ev_if_neg (by omega) (ev_if_neg (by omega) (ev_if_neg (by omega) (ev_bind (spec_frame_ev p hpb (by omega)) (ev_some _))))
    have him : Ev (fun k => impl_FrameBytes.f k p) (frameL p, 0) := by
      unfold impl_FrameBytes.f
      refine ev_if_neg (by omega) (ev_if_pos (by omega) (ev_bind (impl_frame_ev p hpb (by omega)) (ev_if_pos (by rw [size_strOfNums]; omega) ?_)))
      rw [bytesOf_strOfNums _ hfb]
      exact ev_some _
    have h := ih (ds ++ [p]) hs2 (by rw [List.length_append, List.length_singleton]; omega)
    have hlen : (ds ++ [p]).length = ds.length + 1 := by rw [List.length_append, List.length_singleton]
    have w1 : Aside0 (wrap64 ((ds.length : Int) + 1) = (((ds ++ [p]).length : Nat) : Int)) := ⟨(wrap_in (by omega) (by omega)).trans (by omega)⟩
    have hB : Bs (ds ++ [p]) = Bs ds ++ frameL p := by rw [Bs_append, Bs_cons, Bs_nil, List.append_nil]
    rw [List.map_append, List.map_singleton, offL_snoc, hB] at h
    refine ev_succ ?_
    simp only [laws_FnFrames.l0, eq_, Option.bind_some, w0.out]
    refine ev_if_pos (by omega) (ev_if_pos (by rw [List.length_singleton]; omega) (ev_bind er (ev_if_pos (by omega) ?_)))
    simp only [hp]
    refine ev_bind him (ev_bind hsp (ev_if_pos (by first | rfl | trivial) (ev_if_pos (by first | rfl | trivial) (ev_if_pos (by omega) (ev_if_pos (by simp only; omega) ?_)))))
    refine ev_if_pos (by rw [offL_length]; omega) ?_
    simp only [w1.out]
    exact h
theorem FnFrames : laws_FnFrames.Pure := by
  intro x0 x1 _ _ hw0 _ _ hw1
  refine Ev.rounds (r := true) ?_
  have bytes : ∀ l : List Int, (∀ x ∈ l, (Lit.int .u8 x).wf = true) → Bytes l := fun l hw x hx => by
    have h := hw x hx
    simp only [Lit.wf, Bool.and_eq_true, decide_eq_true_eq] at h
    have h1 : IntKind.u8.min = 0 := rfl
    have h2 : IntKind.u8.max = 255 := rfl
    omega
  have stop : Ev (fun k => laws_FnFrames.j0 k x0 x1 true) true := by
    refine ev_succ ?_
    simp only [laws_FnFrames.j0]
    exact ev_if_pos trivial (ev_some _)
  unfold laws_FnFrames.f
  by_cases h1 : (x0.length : Int) > 1048576
  · exact ev_if_pos h1 stop
  · refine ev_if_neg h1 ?_
    by_cases h2 : (x1.length : Int) > 1048576
    · rw [decide_eq_true h2]; exact stop
    · rw [decide_eq_false h2]
      have hb1 := bytes x1 hw1
      obtain ⟨q, eq_, q0, q1⟩ := at_some x1 hb1 0 (by omega) 5 (by omega) (by omega)
      obtain ⟨d, hd⟩ := Int.eq_ofNat_of_zero_le (show 0 ≤ 1 + q by omega)
      refine ev_succ ?_
      simp only [laws_FnFrames.j0]
      exact ev_if_neg (by simp) (law_l0 x0 x1 (bytes x0 hw0) (by omega) hb1 (by omega) q eq_ q0 (q1 (by omega)) d [] (fun x hx => by simp at hx) (by simp only [List.length_nil]; omega))
end Go.Proofs.Ytfjpkblkdlgaeaa.Pure
