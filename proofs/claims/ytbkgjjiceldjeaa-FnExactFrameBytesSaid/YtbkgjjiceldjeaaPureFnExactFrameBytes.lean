/- The program's FrameBytes answers as the reference's at all bytes: the plain form. No conditions. -/
import Derived.Test.YtbkgjjiceldjeaaQFnExactFrameBytes
import Derived.Test.YtbkgjjiceldjeaaU
namespace Go.Proofs.Ytbkgjjiceldjeaa.Pure
open Go.RowKit Go.Proofs.Ytbkgjjiceldjeaa.PFnExactFrameBytes Go.Proofs.YtbkgjjiceldjeaaW.PrintWords Go.Proofs.YtbkgjjiceldjeaaW.PrintLast Go.Proofs.YtbkgjjiceldjeaaW.PrintMore Go.Proofs.Ytbkgjjiceldjeaa.U
set_option linter.unusedVariables false
set_option linter.unusedSimpArgs false
/-- One halving of the register. -/
def crcH (x : Nat) : Nat := if x % 2 = 1 then (x / 2) ^^^ 3988292384 else x / 2
def crc8 : Nat → Nat → Nat
  | 0, x => x
  | n + 1, x => crc8 n (crcH x)
def crcL : Nat → List Int → Nat
  | x, [] => x
  | x, b :: l => crcL (crc8 8 (x ^^^ b.toNat)) l
theorem crcH_lt {x : Nat} (h : x < 4294967296) : crcH x < 4294967296 := by
  unfold crcH
  split
  · exact Nat.xor_lt_two_pow (n := 32) (by omega) (by omega)
  · omega
theorem crc8_lt (n : Nat) : ∀ {x : Nat}, x < 4294967296 → crc8 n x < 4294967296 := by
  induction n with
  | zero => intro x h; exact h
  | succ n ih => intro x h; exact ih (crcH_lt h)
theorem spec_half (k : Nat) (l : List Int) (x : Nat) (hx : x < 4294967296) (i j : Int) (hj : 0 ≤ j ∧ j < 8) : spec_l01Check.l1 (k + 1) l (x : Int) i j = spec_l01Check.l1 k l ((crcH x : Nat) : Int) i (j + 1) := by
  simp only [spec_l01Check.l1]
  rw [if_pos hj.2, wrap_in (x := j + 1) (by omega) (by omega), Int.tmod_eq_emod_of_nonneg (by omega), Int.tdiv_eq_ediv_of_nonneg (by omega), wrap_in (x := (x : Int) / 2) (by omega) (by omega)]
  unfold crcH
  by_cases h : x % 2 = 1
  · rw [if_pos (by omega), if_pos h, i64_xor _ _ (by omega) (by omega) (by omega) (by omega)]
    rfl
  · rw [if_neg (by omega), if_neg h]
    rfl
theorem impl_half (k : Nat) (s : ByteArray) (x : Nat) (hx : x < 4294967296) (n i j : Int) (hj : 0 ≤ j ∧ j < 8) : impl_check32.l1 (k + 1) s (x : Int) n i j = impl_check32.l1 k s ((crcH x : Nat) : Int) n i (j + 1) := by
  simp only [impl_check32.l1]
  rw [if_pos hj.2, wrap_in (x := j + 1) (by omega) (by omega), u32_and _ _ (by omega) (by omega) (by omega) (by omega), Int.toNat_natCast, show Int.toNat 1 = 1 from rfl, nat_mask1]
  unfold crcH
  by_cases h : x % 2 = 1
  · rw [if_pos (by omega), if_pos h, u32_xor _ _ (by omega) (by omega) (by omega) (by omega)]
    rfl
  · rw [if_neg (by omega), if_neg h]
    rfl
theorem spec_halves (l : List Int) (i : Int) (n : Nat) : ∀ (k x : Nat) (j : Int), x < 4294967296 → 0 ≤ j → j + n = 8 → spec_l01Check.l1 (k + n + 1) l (x : Int) i j = spec_l01Check.l0 k l ((crc8 n x : Nat) : Int) (wrap64 (i + 1)) := by
  induction n with
  | zero =>
    intro k x j hx h0 h8
    simp only [spec_l01Check.l1]
    rw [if_neg (by omega)]
    rfl
  | succ n ih =>
    intro k x j hx h0 h8
    rw [show k + (n + 1) + 1 = (k + n + 1) + 1 from by omega, spec_half _ l x hx i j ⟨h0, by omega⟩]
    exact ih k (crcH x) (j + 1) (crcH_lt hx) (by omega) (by omega)
theorem impl_halves (s : ByteArray) (m i : Int) (n : Nat) : ∀ (k x : Nat) (j : Int), x < 4294967296 → 0 ≤ j → j + n = 8 → impl_check32.l1 (k + n + 1) s (x : Int) m i j = impl_check32.l0 k s ((crc8 n x : Nat) : Int) m (wrap64 (i + 1)) := by
  induction n with
  | zero =>
    intro k x j hx h0 h8
    simp only [impl_check32.l1]
    rw [if_neg (by omega)]
    rfl
  | succ n ih =>
    intro k x j hx h0 h8
    rw [show k + (n + 1) + 1 = (k + n + 1) + 1 from by omega, impl_half _ s x hx m i j ⟨h0, by omega⟩]
    exact ih k (crcH x) (j + 1) (crcH_lt hx) (by omega) (by omega)
theorem rd_drop (l : List Int) (i : Nat) (hi : i < l.length) : l.drop i = rd l (i : Int) :: l.drop (i + 1) := by
  unfold rd
  rw [Int.toNat_natCast, List.getD_eq_getElem?_getD, List.getElem?_eq_getElem hi, Option.getD_some]
  exact List.drop_eq_getElem_cons hi
theorem rd_byte (l : List Int) (hb : ∀ x ∈ l, 0 ≤ x ∧ x < 256) (i : Nat) (hi : i < l.length) : 0 ≤ rd l (i : Int) ∧ rd l (i : Int) < 256 := by
  unfold rd
  rw [Int.toNat_natCast, List.getD_eq_getElem?_getD, List.getElem?_eq_getElem hi, Option.getD_some]
  exact hb _ (List.getElem_mem hi)
theorem spec_from (l : List Int) (hb : ∀ x ∈ l, 0 ≤ x ∧ x < 256) (hl : l.length ≤ 1048576) (d : Nat) : ∀ (i x : Nat), i + d = l.length → x < 4294967296 → Ev (fun k => spec_l01Check.l0 k l (x : Int) (i : Int)) (((crcL x (l.drop i)) ^^^ 4294967295 : Nat) : Int) := by
  induction d with
  | zero =>
    intro i x hi hx
    refine ev_succ (ev_of_eq fun k => ?_)
    simp only [spec_l01Check.l0]
    rw [if_neg (by omega), i64_xor _ _ (by omega) (by omega) (by omega) (by omega), List.drop_eq_nil_of_le (by omega)]
    rfl
  | succ d ih =>
    intro i x hi hx
    have hlt : i < l.length := by omega
    have hr := rd_byte l hb i hlt
    obtain ⟨b, hbe⟩ := Int.eq_ofNat_of_zero_le hr.1
    have hb256 : b < 256 := by omega
    have hx2 : x ^^^ b < 4294967296 := Nat.xor_lt_two_pow (n := 32) (by omega) (by omega)
    rw [rd_drop l i hlt, hbe]
    show Ev _ (((crcL (crc8 8 (x ^^^ b)) (l.drop (i + 1))) ^^^ 4294967295 : Nat) : Int)
    obtain ⟨K, hK⟩ := ih (i + 1) (crc8 8 (x ^^^ b)) (by omega) (crc8_lt 8 hx2)
    refine ⟨K + 10, fun k hk => ?_⟩
    obtain ⟨m, rfl⟩ : ∃ m, k = (m + 8 + 1) + 1 := ⟨k - 10, by omega⟩
    show spec_l01Check.l0 ((m + 8 + 1) + 1) l (x : Int) (i : Int) = _
    simp only [spec_l01Check.l0]
    rw [if_pos (by omega), if_pos (by omega), hbe, wrap_in (by omega) (by omega), i64_xor _ _ (by omega) (by omega) (by omega) (by omega)]
    have := spec_halves l (i : Int) 8 m (x ^^^ b) 0 hx2 (by omega) (by omega)
    rw [show ((Int.toNat (x : Int)) ^^^ (Int.toNat (b : Int)) : Nat) = x ^^^ b from rfl, this, wrap_in (by omega) (by omega)]
    exact hK m (by omega)
theorem impl_from (l : List Int) (hb : ∀ x ∈ l, 0 ≤ x ∧ x < 256) (hl : l.length ≤ 1048576) (d : Nat) : ∀ (i x : Nat), i + d = l.length → x < 4294967296 → Ev (fun k => impl_check32.l0 k (strOfNums l) (x : Int) (l.length : Int) (i : Int)) (((crcL x (l.drop i)) ^^^ 4294967295 : Nat) : Int) := by
  induction d with
  | zero =>
    intro i x hi hx
    refine ev_succ (ev_of_eq fun k => ?_)
    have hx3 : crcL x [] ^^^ 4294967295 < 4294967296 := Nat.xor_lt_two_pow (n := 32) hx (by omega)
    simp only [impl_check32.l0]
    rw [if_neg (by omega), u32_xor _ _ (by omega) (by omega) (by omega) (by omega), List.drop_eq_nil_of_le (by omega), Nat.xor_comm]
    show some (wrap64 ((x ^^^ 4294967295 : Nat) : Int)) = some ((x ^^^ 4294967295 : Nat) : Int)
    rw [wrap_in (by omega) (by have : x ^^^ 4294967295 < 4294967296 := hx3; omega)]
  | succ d ih =>
    intro i x hi hx
    have hlt : i < l.length := by omega
    have hr := rd_byte l hb i hlt
    have hbt : bt (strOfNums l) (i : Int) = rd l (i : Int) := by
      unfold rd at hr ⊢
      rw [Int.toNat_natCast] at hr ⊢
      exact bt_strOfNums l i hlt hr.1 hr.2
    obtain ⟨b, hbe⟩ := Int.eq_ofNat_of_zero_le hr.1
    have hb256 : b < 256 := by omega
    have hx2 : x ^^^ b < 4294967296 := Nat.xor_lt_two_pow (n := 32) (by omega) (by omega)
    rw [rd_drop l i hlt, hbe]
    show Ev _ (((crcL (crc8 8 (x ^^^ b)) (l.drop (i + 1))) ^^^ 4294967295 : Nat) : Int)
    obtain ⟨K, hK⟩ := ih (i + 1) (crc8 8 (x ^^^ b)) (by omega) (crc8_lt 8 hx2)
    refine ⟨K + 10, fun k hk => ?_⟩
    obtain ⟨m, rfl⟩ : ∃ m, k = (m + 8 + 1) + 1 := ⟨k - 10, by omega⟩
    show impl_check32.l0 ((m + 8 + 1) + 1) (strOfNums l) (x : Int) (l.length : Int) (i : Int) = _
    simp only [impl_check32.l0]
    rw [if_pos (by omega), if_pos (by omega), if_pos (by rw [size_strOfNums]; omega), hbt, hbe, show (b : Int) % 4294967296 = (b : Int) from by omega, u32_xor _ _ (by omega) (by omega) (by omega) (by omega)]
    have := impl_halves (strOfNums l) (l.length : Int) (i : Int) 8 m (x ^^^ b) 0 hx2 (by omega) (by omega)
    rw [show ((Int.toNat (x : Int)) ^^^ (Int.toNat (b : Int)) : Nat) = x ^^^ b from rfl, this, wrap_in (by omega) (by omega)]
    exact hK m (by omega)
/-- The check of bytes. -/
def crcV (l : List Int) : Int := ((crcL 4294967295 l ^^^ 4294967295 : Nat) : Int)
theorem spec_check_ev (l : List Int) (hb : ∀ x ∈ l, 0 ≤ x ∧ x < 256) (hl : l.length ≤ 1048576) : Ev (fun k => spec_l01Check.f k l) (crcV l) :=
  spec_from l hb hl l.length 0 4294967295 (by omega) (by omega)
theorem impl_check_ev (l : List Int) (hb : ∀ x ∈ l, 0 ≤ x ∧ x < 256) (hl : l.length ≤ 1048576) : Ev (fun k => impl_check32.f k (strOfNums l)) (crcV l) := by
  have h := impl_from l hb hl l.length 0 4294967295 (by omega) (by omega)
  unfold impl_check32.f
  rw [size_strOfNums]
  exact h
theorem crcL_lt (l : List Int) (hb : ∀ x ∈ l, 0 ≤ x ∧ x < 256) : ∀ x, x < 4294967296 → crcL x l < 4294967296 := by
  induction l with
  | nil => intro x h; exact h
  | cons b r ih =>
    intro x h
    have h1 := hb b List.mem_cons_self
    refine ih (fun y hy => hb y (List.mem_cons_of_mem _ hy)) _ (crc8_lt 8 (Nat.xor_lt_two_pow (n := 32) (by omega) (by omega)))
theorem crcV_range (l : List Int) (hb : ∀ x ∈ l, 0 ≤ x ∧ x < 256) : 0 ≤ crcV l ∧ crcV l < 4294967296 := by
  unfold crcV
  have h := crcL_lt l hb 4294967295 (by omega)
  have h2 : crcL 4294967295 l ^^^ 4294967295 < 4294967296 := Nat.xor_lt_two_pow (n := 32) h (by omega)
  omega

/-- What the program's number writes. -/
theorem number_from (m : Nat) (hm : m ≤ 1000) (i : Nat) : ∀ (n : Int) (x : List Int), i ≤ m → x.length = m → Ev (fun k => impl_number.l0 k n x ((i : Int) - 1)) (strOfNums (BE n i ++ x.drop i)) := by
  induction i with
  | zero =>
    intro n x hi hx
    refine ev_succ (ev_of_eq fun k => ?_)
    simp only [impl_number.l0]
    rw [if_neg (by omega)]
    rfl
  | succ i ih =>
    intro n x hi hx
    have h := ih (n / 256) (x.set i (n % 256)) (by omega) (by rw [List.length_set, hx])
    have he : BE (n / 256) i ++ (x.set i (n % 256)).drop i = BE n (i + 1) ++ x.drop (i + 1) := by
      have hd : (x.set i (n % 256)).drop i = (n % 256) :: x.drop (i + 1) := by
        rw [List.drop_eq_getElem_cons (by rw [List.length_set]; omega), List.getElem_set_self, List.drop_set_of_lt (by omega)]
      rw [hd, BE, List.append_assoc]
      rfl
    rw [he] at h
    refine ev_succ (ev_congr (fun k => ?_) h)
    simp only [impl_number.l0]
    rw [show (((i + 1 : Nat) : Int) - 1) = (i : Int) from by omega, if_pos (by omega), if_pos (by omega), if_pos (by omega), Int.toNat_natCast, wrap_in (x := (i : Int) - 1) (by omega) (by omega)]
theorem number_ev (n : Int) (m : Nat) (hm : m ≤ 1000) : Ev (fun k => impl_number.f k n (m : Int)) (strOfNums (BE n m)) := by
  have h := number_from m hm m n (List.replicate m 0) (Nat.le_refl _) (by simp)
  rw [List.drop_of_length_le (by simp), List.append_nil] at h
  refine ev_congr (fun k => ?_) h
  unfold impl_number.f
  rw [if_pos (by omega), if_pos (by omega), Int.toNat_natCast, wrap_in (by omega) (by omega)]

def Bytes (l : List Int) : Prop := ∀ x ∈ l, 0 ≤ x ∧ x < 256
theorem Bytes.app {a b : List Int} (ha : Bytes a) (hb : Bytes b) : Bytes (a ++ b) := fun x hx => by
  rcases List.mem_append.1 hx with h | h
  · exact ha x h
  · exact hb x h
theorem Bytes.be (n : Int) (m : Nat) : Bytes (BE n m) := BE_range m n
/-- A frame: the size, the check of size and data, the data. -/
def frameL (p : List Int) : List Int := BE (p.length : Int) 2 ++ BE (crcV (BE (p.length : Int) 2 ++ p)) 4 ++ p
theorem frameL_length (p : List Int) : (frameL p).length = 6 + p.length := by
  unfold frameL
  rw [List.length_append, List.length_append, BE_length, BE_length]
theorem BE2 (n : Int) : BE n 2 = [n / 256 % 256, n % 256] := rfl
theorem BE4 (n : Int) : BE n 4 = [n / 256 / 256 / 256 % 256, n / 256 / 256 % 256, n / 256 % 256, n % 256] := rfl
theorem impl_frame_ev (p : List Int) (hb : Bytes p) (hl : p.length ≤ 1000000) : Ev (fun k => impl_frame.f k (strOfNums p)) (strOfNums (frameL p)) := by
  unfold impl_frame.f
  rw [size_strOfNums]
  have h1 := number_ev (p.length : Int) 2 (by omega)
  refine ev_bind h1 ?_
  refine ev_if_pos (by rw [size_strOfNums, BE_length]; omega) ?_
  rw [← strOfNums_append]
  refine ev_bind (impl_check_ev _ ((Bytes.be _ _).app hb) (by rw [List.length_append, BE_length]; omega)) ?_
  refine ev_bind (number_ev _ 4 (by omega)) ?_
  refine ev_if_pos (by rw [size_strOfNums, size_strOfNums, BE_length, BE_length]; omega) ?_
  refine ev_if_pos (by rw [size_strOfNums, size_strOfNums, BE_length, BE_length]; omega) ?_
  rw [← strOfNums_append, ← strOfNums_append]
  exact ev_some _
theorem spec_frame_ev (p : List Int) (hb : Bytes p) (hl : p.length ≤ 1000000) : Ev (fun k => spec_l02Frame.f k p) (frameL p) := by
  unfold spec_l02Frame.f
  have h2 : spec_l02Two.f (p.length : Int) = some (BE (p.length : Int) 2) := by
    unfold spec_l02Two.f
    rw [BE2, Int.tdiv_eq_ediv_of_nonneg (by omega), wrap_in (by omega) (by omega)]
  rw [h2]
  simp only [Option.bind_some, List.nil_append]
  refine ev_if_pos (by rw [BE_length]; show 0 + 2 < _; omega) (ev_if_pos (by rw [BE_length]; omega) ?_)
  have hc := crcV_range (BE (p.length : Int) 2 ++ p) ((Bytes.be _ _).app hb)
  refine ev_bind (spec_check_ev _ ((Bytes.be _ _).app hb) (by rw [List.length_append, BE_length]; omega)) ?_
  have h4 : spec_l02Four.f (crcV (BE (p.length : Int) 2 ++ p)) = some (BE (crcV (BE (p.length : Int) 2 ++ p)) 4) := by
    unfold spec_l02Four.f
    rw [BE4]
    congr 1
    generalize crcV (BE (p.length : Int) 2 ++ p) = c
    have e1 : c / 16777216 = c / 256 / 256 / 256 := by omega
    have e2 : c / 65536 = c / 256 / 256 := by omega
    rw [e1, e2]
  rw [h4]
  simp only [Option.bind_some]
  refine ev_if_pos (by rw [BE_length, BE_length]; omega) (ev_if_pos (by rw [List.length_append, BE_length, BE_length]; omega) (ev_some _))
theorem ext_nums (l : List Int) (a b : Nat) : (strOfNums l).extract a b = strOfNums ((l.take b).drop a) := by
  apply ByteArray.ext
  rw [ByteArray.data_extract]
  show ((l.map fun n => UInt8.ofNat n.toNat).toArray).extract a b = (((l.take b).drop a).map fun n => UInt8.ofNat n.toNat).toArray
  rw [List.extract_toArray]
  congr 1
  rw [List.extract_eq_take_drop, List.map_drop, List.map_take, List.drop_take]

/-- A copy of bytes is the bytes. -/
theorem toByteS_ev (l : List Int) (hl : l.length ≤ 1048576) : Ev (fun k => laws_toByteS.f k l) l := by
  have key := ev_loop (fun k (s : List Int × Int) => laws_toByteS.l0 k l s.1 s.2) (fun s => 0 ≤ s.2 ∧ s.2 ≤ l.length ∧ s.1.length = l.length ∧ ∀ j : Nat, j < s.2.toNat → s.1[j]? = l[j]?) (fun s => l.length - s.2.toNat) (fun _ => l) (by
    rintro ⟨x, i⟩ ⟨h0, h1, h2, h3⟩
    by_cases hi : i < (l.length : Int)
    · right
      obtain ⟨hs1, hs2⟩ := copy_step l x i.toNat 0 h2 (by simp only at h0; omega) h3
      refine ⟨(x.set i.toNat (rd l i), i + 1), ⟨by simp only at h0 ⊢; omega, by simp only at h0 ⊢; omega, hs1, fun j hj => hs2 j (by simp only at h0 hj ⊢; omega)⟩, by simp only at h0 ⊢; omega, rfl, 0, fun j _ => ?_⟩
      show laws_toByteS.l0 (j + 1) l x i = _
      simp only at h0 h1 h2
      simp only [laws_toByteS.l0]
      rw [if_pos hi, if_pos h0, if_pos (by omega), wrap_in (by omega) (by omega)]
    · left
      refine ⟨0, fun j _ => ?_⟩
      show laws_toByteS.l0 (j + 1) l x i = _
      simp only at h0 h1 h2 h3
      simp only [laws_toByteS.l0]
      rw [if_neg hi, copy_end l x h2 (fun j hj => h3 j (by omega))])
  have := key (List.replicate l.length 0, 0) ⟨by simp, by simp, by simp, fun j hj => absurd hj (by simp)⟩
  refine ev_congr (fun k => ?_) this
  unfold laws_toByteS.f
  rw [if_pos (by omega), if_pos (by omega), Int.toNat_natCast]

theorem eqByteS_ev (l : List Int) (hl : l.length ≤ 100000000) : Ev (fun k => laws_eqByteS.f k l l) true := by
  have key := ev_loop (fun k (i : Int) => laws_eqByteS.l0 k l l i) (fun i => 0 ≤ i ∧ i ≤ l.length) (fun i => l.length - i.toNat) (fun _ => true) (by
    rintro i ⟨h0, h1⟩
    by_cases hi : i < (l.length : Int)
    · right
      refine ⟨i + 1, ⟨by omega, by omega⟩, by omega, rfl, 0, fun j _ => ?_⟩
      simp only [laws_eqByteS.l0]
      rw [if_pos hi, if_pos h0, if_pos hi, if_pos trivial, wrap_in (by omega) (by omega)]
    · left
      refine ⟨0, fun j _ => ?_⟩
      simp only [laws_eqByteS.l0]
      rw [if_neg hi])
  refine ev_congr (fun k => ?_) (key 0 ⟨by omega, by omega⟩)
  unfold laws_eqByteS.f
  rw [if_pos rfl]

/-- What the marks are: 1, 2, 3, .. -/
def marksB (n : Nat) : List Int := (List.range n).map fun i => (((i : Nat) : Int) + 1) % 256
theorem marksB_length (n : Nat) : (marksB n).length = n := by simp [marksB]
theorem marksB_get (n i : Nat) (h : i < n) : (marksB n).getD i 0 = ((i : Int) + 1) % 256 := by
  unfold marksB
  rw [List.getD_eq_getElem?_getD, List.getElem?_map, List.getElem?_range h]
  rfl
theorem markByteS_is (l : List Int) (hl : l.length ≤ 100000000) : Ev (fun k => laws_markByteS.f k l 1) ((l.length : Int) + 1, marksB l.length) := by
  have key := ev_loop (fun k (s : List Int × Int) => laws_markByteS.l0 k s.1 (s.2 + 1) s.2) (fun s => 0 ≤ s.2 ∧ s.2 ≤ l.length ∧ s.1.length = l.length ∧ ∀ j : Nat, j < s.2.toNat → s.1[j]? = (marksB l.length)[j]?) (fun s => l.length - s.2.toNat) (fun _ => ((l.length : Int) + 1, marksB l.length)) (by
    rintro ⟨x, i⟩ ⟨h0, h1, h2, h3⟩
    simp only at h0 h1 h2 h3
    have hml := marksB_length l.length
    by_cases hi : i < (l.length : Int)
    · right
      obtain ⟨hs1, hs2⟩ := copy_step (marksB l.length) x i.toNat 0 (by rw [hml]; exact h2) (by rw [hml]; omega) h3
      have hg := marksB_get l.length i.toNat (by omega)
      rw [hg] at hs1 hs2
      rw [hml] at hs1
      have hc : ((i.toNat : Nat) : Int) + 1 = i + 1 := by omega
      rw [hc] at hs1 hs2
      refine ⟨(x.set i.toNat ((i + 1) % 256), i + 1), ⟨by simp only; omega, by simp only; omega, hs1, fun j hj => hs2 j (by simp only at hj; omega)⟩, by simp only; omega, rfl, 0, fun j _ => ?_⟩
      show laws_markByteS.l0 (j + 1) x (i + 1) i = laws_markByteS.l0 j (x.set i.toNat ((i + 1) % 256)) (i + 1 + 1) (i + 1)
      simp only [laws_markByteS.l0]
      rw [if_pos (by omega), if_pos h0, wrap_in (x := i + 1 + 1) (by omega) (by omega), wrap_in (x := i + 1) (by omega) (by omega)]
    · left
      refine ⟨0, fun j _ => ?_⟩
      show laws_markByteS.l0 (j + 1) x (i + 1) i = _
      simp only [laws_markByteS.l0]
      rw [if_neg (by omega), copy_end (marksB l.length) x (by rw [hml]; exact h2) (fun j hj => h3 j (by rw [hml] at hj; omega)), show i + 1 = (l.length : Int) + 1 from by omega])
  have := key (l, 0) ⟨by simp, by simp, rfl, fun j hj => absurd hj (by simp)⟩
  exact this
theorem heldByteS_is (n : Nat) (hl : n ≤ 100000000) : Ev (fun k => laws_heldByteS.f k (marksB n) 1) ((n : Int) + 1) := by
  have hml := marksB_length n
  have key := ev_loop (fun k (i : Int) => laws_heldByteS.l0 k (marksB n) (i + 1) i) (fun i => 0 ≤ i ∧ i ≤ n) (fun i => n - i.toNat) (fun _ => (n : Int) + 1) (by
    rintro i ⟨h0, h1⟩
    by_cases hi : i < (n : Int)
    · right
      have hg := marksB_get n i.toNat (by omega)
      have hr : rd (marksB n) i = (i + 1) % 256 := by unfold rd; rw [hg, Int.toNat_of_nonneg h0]
      refine ⟨i + 1, ⟨by omega, by omega⟩, by omega, rfl, 0, fun j _ => ?_⟩
      simp only [laws_heldByteS.l0]
      rw [if_pos (by rw [hml]; omega), if_pos h0, if_pos hr, wrap_in (x := i + 1 + 1) (by omega) (by omega), wrap_in (x := i + 1) (by omega) (by omega)]
    · left
      refine ⟨0, fun j _ => ?_⟩
      simp only [laws_heldByteS.l0]
      rw [if_neg (by rw [hml]; omega), show i + 1 = (n : Int) + 1 from by omega])
  exact key 0 ⟨by omega, by omega⟩

theorem FnExactFrameBytes : laws_FnExactFrameBytes.Pure := by
  intro l hg
  refine Ev.rounds (r := true) ?_
  unfold laws_FnExactFrameBytes.f
  by_cases h0 : 1048576 < l.length
  · exact ev_if_pos h0 (ev_some _)
  · have hb : Bytes l := fun x hx => by
      have := hg.2 x hx
      simp only [Lit.wf, Bool.and_eq_true, decide_eq_true_eq] at this
      have h1 : IntKind.u8.min = 0 := rfl
      have h2 : IntKind.u8.max = 255 := rfl
      omega
    have ht := toByteS_ev l (by omega)
    have he := eqByteS_ev l (by omega)
    have hm := markByteS_is l (by omega)
    refine ev_if_neg h0 (ev_bind ht (ev_bind he (ev_bind hm ?_)))
    by_cases hl : 1 ≤ l.length ∧ l.length ≤ 200
    · have hsp : Ev (fun k => spec_FrameBytes.f k l) (frameL l, 0) := by
        unfold spec_FrameBytes.f
        exact ev_if_neg (by omega) (ev_if_neg (by omega) (ev_if_neg (by omega) (ev_bind (spec_frame_ev l hb (by omega)) (ev_some _))))
      have hfl := frameL_length l
      have hfb : Bytes (frameL l) := (((Bytes.be _ 2).app (Bytes.be _ 4)).app hb)
      refine ev_bind hsp (ev_bind (eqByteS_ev (frameL l) (by omega)) (ev_bind (markByteS_is (frameL l) (by omega)) (ev_bind (heldByteS_is (frameL l).length (by omega)) (ev_if_pos ⟨rfl, rfl, by simp only; omega, rfl, rfl, by omega⟩ (ev_if_pos hl (ev_bind (impl_frame_ev l hb (by omega)) (ev_if_pos ⟨?_, ?_⟩ (ev_some _))))))))
      · rw [size_strOfNums]; omega
      · rw [bytesOf_strOfNums _ hfb]
    · have hsp : Ev (fun k => spec_FrameBytes.f k l) ([], if 65536 < l.length then 2 else 4) := by
        unfold spec_FrameBytes.f
        by_cases h1 : 65536 < l.length
        · rw [if_pos h1]
          exact ev_if_pos (by omega) (ev_some _)
        · rw [if_neg h1]
          by_cases h2 : l.length = 0
          · exact ev_if_neg (by omega) (ev_if_pos (by omega) (ev_some _))
          · exact ev_if_neg (by omega) (ev_if_neg (by omega) (ev_if_pos (by omega) (ev_some _)))
      exact ev_bind hsp (ev_bind (eqByteS_ev [] (by simp)) (ev_bind (markByteS_is [] (by simp)) (ev_bind (heldByteS_is 0 (by simp)) (ev_if_pos ⟨rfl, rfl, by simp only; omega, rfl, rfl, by omega⟩ (ev_if_neg hl (ev_if_pos ⟨rfl, rfl⟩ (ev_some _)))))))
end Go.Proofs.Ytbkgjjiceldjeaa.Pure
