/- Check32 answers as the reference's at all bytes: the plain form. No conditions. -/
import Derived.Test.YtdanonhkkdijnaaPFnExactCheck32x1
import Derived.Test.YtdanonhkkdijnaaU
import Derived.Laws.BitsAllLaws
namespace Go.Proofs.Ytdanonhkkdijnaa.Pure
open Go.RowKit Go.Proofs.Ytdanonhkkdijnaa.PFnExactCheck32 Go.Proofs.YtdanonhkkdijnaaW.PrintWords Go.Proofs.YtdanonhkkdijnaaW.PrintLast Go.Proofs.YtdanonhkkdijnaaW.PrintMore Go.Proofs.Ytdanonhkkdijnaa.U
/-- A copy of bytes is the bytes. -/
theorem toByteS_ev (l : List Int) (hl : l.length ≤ 1048576) : Ev (fun k => laws_toByteS.f k l) l := by
  have key := ev_loop (fun k (s : List Int × Int) => laws_toByteS.l0 k l s.1 s.2) (fun s => 0 ≤ s.2 ∧ s.2 ≤ l.length ∧ s.1.length = l.length ∧ ∀ j : Nat, j < s.2.toNat → s.1[j]? = l[j]?) (fun s => l.length - s.2.toNat) (fun _ => l) (by
    rintro ⟨x, i⟩ ⟨h0, h1, h2, h3⟩
    by_cases hi : i < (l.length : Int)
    · right
      obtain ⟨hs1, hs2⟩ := copy_step l x i.toNat 0 h2 (by simp only at h0; omega) h3
      refine ⟨(x.set i.toNat (rd l i), i + 1), ⟨by simp only at h0 ⊢; omega, by simp only at h0 ⊢; omega, hs1, fun j hj => hs2 j (by simp only at h0 hj ⊢; omega)⟩, by simp only at h0 ⊢; omega, rfl, 0, fun j _ => ?_⟩
      show laws_toByteS.l0 (j + 1) l x i = _
      simp only at h0 h1 h2
      simp only [laws_toByteS.l0]
      rw [if_pos hi, if_pos h0, if_pos (by omega), wrap_in (by omega) (by omega)]
    · left
      refine ⟨0, fun j _ => ?_⟩
      show laws_toByteS.l0 (j + 1) l x i = _
      simp only at h0 h1 h2 h3
      simp only [laws_toByteS.l0]
      rw [if_neg hi, copy_end l x h2 (fun j hj => h3 j (by omega))])
  have := key (List.replicate l.length 0, 0) ⟨by simp, by simp, by simp, fun j hj => absurd hj (by simp)⟩
  refine ev_congr (fun k => ?_) this
  unfold laws_toByteS.f
  rw [if_pos (by omega), if_pos (by omega), Int.toNat_natCast]

theorem eqByteS_ev (l : List Int) (hl : l.length ≤ 1048576) : Ev (fun k => laws_eqByteS.f k l l) true := by
  have key := ev_loop (fun k (i : Int) => laws_eqByteS.l0 k l l i) (fun i => 0 ≤ i ∧ i ≤ l.length) (fun i => l.length - i.toNat) (fun _ => true) (by
    rintro i ⟨h0, h1⟩
    by_cases hi : i < (l.length : Int)
    · right
      refine ⟨i + 1, ⟨by omega, by omega⟩, by omega, rfl, 0, fun j _ => ?_⟩
      simp only [laws_eqByteS.l0]
      rw [if_pos hi, if_pos h0, if_pos hi, if_pos trivial, wrap_in (by omega) (by omega)]
    · left
      refine ⟨0, fun j _ => ?_⟩
      simp only [laws_eqByteS.l0]
      rw [if_neg hi])
  refine ev_congr (fun k => ?_) (key 0 ⟨by omega, by omega⟩)
  unfold laws_eqByteS.f
  rw [if_pos rfl]

/-- One halving of the register. -/
def crcH (x : Nat) : Nat := if x % 2 = 1 then (x / 2) ^^^ 3988292384 else x / 2
def crc8 : Nat → Nat → Nat
  | 0, x => x
  | n + 1, x => crc8 n (crcH x)
def crcL : Nat → List Int → Nat
  | x, [] => x
  | x, b :: l => crcL (crc8 8 (x ^^^ b.toNat)) l
theorem crcH_lt {x : Nat} (h : x < 4294967296) : crcH x < 4294967296 := by
  unfold crcH
  split
  · exact Nat.xor_lt_two_pow (n := 32) (by omega) (by omega)
  · omega
theorem crc8_lt (n : Nat) : ∀ {x : Nat}, x < 4294967296 → crc8 n x < 4294967296 := by
  induction n with
  | zero => intro x h; exact h
  | succ n ih => intro x h; exact ih (crcH_lt h)
theorem spec_half (k : Nat) (l : List Int) (x : Nat) (hx : x < 4294967296) (i j : Int) (hj : 0 ≤ j ∧ j < 8) : spec_l01Check.l1 (k + 1) l (x : Int) i j = spec_l01Check.l1 k l ((crcH x : Nat) : Int) i (j + 1) := by
  simp only [spec_l01Check.l1]
  rw [if_pos hj.2, wrap_in (x := j + 1) (by omega) (by omega), Int.tmod_eq_emod_of_nonneg (by omega), Int.tdiv_eq_ediv_of_nonneg (by omega), wrap_in (x := (x : Int) / 2) (by omega) (by omega)]
  unfold crcH
  by_cases h : x % 2 = 1
  · rw [if_pos (by omega), if_pos h, i64_xor _ _ (by omega) (by omega) (by omega) (by omega)]
    rfl
  · rw [if_neg (by omega), if_neg h]
    rfl
theorem impl_half (k : Nat) (s : ByteArray) (x : Nat) (hx : x < 4294967296) (n i j : Int) (hj : 0 ≤ j ∧ j < 8) : impl_check32.l1 (k + 1) s (x : Int) n i j = impl_check32.l1 k s ((crcH x : Nat) : Int) n i (j + 1) := by
  simp only [impl_check32.l1]
  rw [if_pos hj.2, wrap_in (x := j + 1) (by omega) (by omega), u32_and _ _ (by omega) (by omega) (by omega) (by omega), Int.toNat_natCast, show Int.toNat 1 = 1 from rfl, nat_mask1]
  unfold crcH
  by_cases h : x % 2 = 1
  · rw [if_pos (by omega), if_pos h, u32_xor _ _ (by omega) (by omega) (by omega) (by omega)]
    rfl
  · rw [if_neg (by omega), if_neg h]
    rfl
theorem spec_halves (l : List Int) (i : Int) (n : Nat) : ∀ (k x : Nat) (j : Int), x < 4294967296 → 0 ≤ j → j + n = 8 → spec_l01Check.l1 (k + n + 1) l (x : Int) i j = spec_l01Check.l0 k l ((crc8 n x : Nat) : Int) (wrap64 (i + 1)) := by
  induction n with
  | zero =>
    intro k x j hx h0 h8
    simp only [spec_l01Check.l1]
    rw [if_neg (by omega)]
    rfl
  | succ n ih =>
    intro k x j hx h0 h8
    rw [show k + (n + 1) + 1 = (k + n + 1) + 1 from by omega, spec_half _ l x hx i j ⟨h0, by omega⟩]
    exact ih k (crcH x) (j + 1) (crcH_lt hx) (by omega) (by omega)
theorem impl_halves (s : ByteArray) (m i : Int) (n : Nat) : ∀ (k x : Nat) (j : Int), x < 4294967296 → 0 ≤ j → j + n = 8 → impl_check32.l1 (k + n + 1) s (x : Int) m i j = impl_check32.l0 k s ((crc8 n x : Nat) : Int) m (wrap64 (i + 1)) := by
  induction n with
  | zero =>
    intro k x j hx h0 h8
    simp only [impl_check32.l1]
    rw [if_neg (by omega)]
    rfl
  | succ n ih =>
    intro k x j hx h0 h8
    rw [show k + (n + 1) + 1 = (k + n + 1) + 1 from by omega, impl_half _ s x hx m i j ⟨h0, by omega⟩]
    exact ih k (crcH x) (j + 1) (crcH_lt hx) (by omega) (by omega)
theorem rd_drop (l : List Int) (i : Nat) (hi : i < l.length) : l.drop i = rd l (i : Int) :: l.drop (i + 1) := by
  unfold rd
  rw [Int.toNat_natCast, List.getD_eq_getElem?_getD, List.getElem?_eq_getElem hi, Option.getD_some]
  exact List.drop_eq_getElem_cons hi
theorem rd_byte (l : List Int) (hb : ∀ x ∈ l, 0 ≤ x ∧ x < 256) (i : Nat) (hi : i < l.length) : 0 ≤ rd l (i : Int) ∧ rd l (i : Int) < 256 := by
  unfold rd
  rw [Int.toNat_natCast, List.getD_eq_getElem?_getD, List.getElem?_eq_getElem hi, Option.getD_some]
  exact hb _ (List.getElem_mem hi)
theorem spec_from (l : List Int) (hb : ∀ x ∈ l, 0 ≤ x ∧ x < 256) (hl : l.length ≤ 1048576) (d : Nat) : ∀ (i x : Nat), i + d = l.length → x < 4294967296 → Ev (fun k => spec_l01Check.l0 k l (x : Int) (i : Int)) (((crcL x (l.drop i)) ^^^ 4294967295 : Nat) : Int) := by
  induction d with
  | zero =>
    intro i x hi hx
    refine ev_succ (ev_of_eq fun k => ?_)
    simp only [spec_l01Check.l0]
    rw [if_neg (by omega), i64_xor _ _ (by omega) (by omega) (by omega) (by omega), List.drop_eq_nil_of_le (by omega)]
    rfl
  | succ d ih =>
    intro i x hi hx
    have hlt : i < l.length := by omega
    have hr := rd_byte l hb i hlt
    obtain ⟨b, hbe⟩ := Int.eq_ofNat_of_zero_le hr.1
    have hb256 : b < 256 := by omega
    have hx2 : x ^^^ b < 4294967296 := Nat.xor_lt_two_pow (n := 32) (by omega) (by omega)
    rw [rd_drop l i hlt, hbe]
    show Ev _ (((crcL (crc8 8 (x ^^^ b)) (l.drop (i + 1))) ^^^ 4294967295 : Nat) : Int)
    obtain ⟨K, hK⟩ := ih (i + 1) (crc8 8 (x ^^^ b)) (by omega) (crc8_lt 8 hx2)
    refine ⟨K + 10, fun k hk => ?_⟩
    obtain ⟨m, rfl⟩ : ∃ m, k = (m + 8 + 1) + 1 := ⟨k - 10, by omega⟩
    show spec_l01Check.l0 ((m + 8 + 1) + 1) l (x : Int) (i : Int) = _
    simp only [spec_l01Check.l0]
    rw [if_pos (by omega), if_pos (by omega), hbe, wrap_in (by omega) (by omega), i64_xor _ _ (by omega) (by omega) (by omega) (by omega)]
    have := spec_halves l (i : Int) 8 m (x ^^^ b) 0 hx2 (by omega) (by omega)
    rw [show ((Int.toNat (x : Int)) ^^^ (Int.toNat (b : Int)) : Nat) = x ^^^ b from rfl, this, wrap_in (by omega) (by omega)]
    exact hK m (by omega)
theorem impl_from (l : List Int) (hb : ∀ x ∈ l, 0 ≤ x ∧ x < 256) (hl : l.length ≤ 1048576) (d : Nat) : ∀ (i x : Nat), i + d = l.length → x < 4294967296 → Ev (fun k => impl_check32.l0 k (strOfNums l) (x : Int) (l.length : Int) (i : Int)) (((crcL x (l.drop i)) ^^^ 4294967295 : Nat) : Int) := by
  induction d with
  | zero =>
    intro i x hi hx
    refine ev_succ (ev_of_eq fun k => ?_)
    have hx3 : crcL x [] ^^^ 4294967295 < 4294967296 := Nat.xor_lt_two_pow (n := 32) hx (by omega)
    simp only [impl_check32.l0]
    rw [if_neg (by omega), u32_xor _ _ (by omega) (by omega) (by omega) (by omega), List.drop_eq_nil_of_le (by omega), Nat.xor_comm]
    show some (wrap64 ((x ^^^ 4294967295 : Nat) : Int)) = some ((x ^^^ 4294967295 : Nat) : Int)
    rw [wrap_in (by omega) (by have : x ^^^ 4294967295 < 4294967296 := hx3; omega)]
  | succ d ih =>
    intro i x hi hx
    have hlt : i < l.length := by omega
    have hr := rd_byte l hb i hlt
    have hbt : bt (strOfNums l) (i : Int) = rd l (i : Int) := by
      unfold rd at hr ⊢
      rw [Int.toNat_natCast] at hr ⊢
      exact bt_strOfNums l i hlt hr.1 hr.2
    obtain ⟨b, hbe⟩ := Int.eq_ofNat_of_zero_le hr.1
    have hb256 : b < 256 := by omega
    have hx2 : x ^^^ b < 4294967296 := Nat.xor_lt_two_pow (n := 32) (by omega) (by omega)
    rw [rd_drop l i hlt, hbe]
    show Ev _ (((crcL (crc8 8 (x ^^^ b)) (l.drop (i + 1))) ^^^ 4294967295 : Nat) : Int)
    obtain ⟨K, hK⟩ := ih (i + 1) (crc8 8 (x ^^^ b)) (by omega) (crc8_lt 8 hx2)
    refine ⟨K + 10, fun k hk => ?_⟩
    obtain ⟨m, rfl⟩ : ∃ m, k = (m + 8 + 1) + 1 := ⟨k - 10, by omega⟩
    show impl_check32.l0 ((m + 8 + 1) + 1) (strOfNums l) (x : Int) (l.length : Int) (i : Int) = _
    simp only [impl_check32.l0]
    rw [if_pos (by omega), if_pos (by omega), if_pos (by rw [size_strOfNums]; omega), hbt, hbe, show (b : Int) % 4294967296 = (b : Int) from by omega, u32_xor _ _ (by omega) (by omega) (by omega) (by omega)]
    have := impl_halves (strOfNums l) (l.length : Int) (i : Int) 8 m (x ^^^ b) 0 hx2 (by omega) (by omega)
    rw [show ((Int.toNat (x : Int)) ^^^ (Int.toNat (b : Int)) : Nat) = x ^^^ b from rfl, this, wrap_in (by omega) (by omega)]
    exact hK m (by omega)
theorem FnExactCheck32 : laws_FnExactCheck32.Pure := by
  intro l _ _ hw
  have hb : ∀ x ∈ l, 0 ≤ x ∧ x < 256 := by
    intro x hx
    have h := hw x hx
    simp only [Lit.wf, Bool.and_eq_true, decide_eq_true_eq] at h
    have h1 : IntKind.u8.min = 0 := rfl
    have h2 : IntKind.u8.max = 255 := rfl
    omega
  by_cases hbig : (l.length : Int) > 1048576
  · exact ⟨0, by unfold laws_FnExactCheck32.f; rw [if_pos hbig]⟩
  · have hl : l.length ≤ 1048576 := by omega
    refine Ev.rounds (r := true) ?_
    unfold laws_FnExactCheck32.f
    refine ev_if_neg hbig (ev_bind (toByteS_ev l hl) ?_)
    have hsame : ∃ r, Ev (fun k => spec_Check32.f k l) r ∧ Ev (fun k => impl_Check32.f k l) r := by
      by_cases h6 : (l.length : Int) > 65536
      · exact ⟨0, ev_of_eq fun k => by unfold spec_Check32.f; rw [if_pos h6], ev_of_eq fun k => by unfold impl_Check32.f; rw [if_pos h6]⟩
      · refine ⟨(((crcL 4294967295 (l.drop 0)) ^^^ 4294967295 : Nat) : Int), ?_, ?_⟩
        · unfold spec_Check32.f
          exact ev_if_neg h6 (ev_bind (spec_from l hb hl l.length 0 4294967295 (by omega) (by omega)) (ev_some _))
        · unfold impl_Check32.f
          refine ev_if_neg h6 (ev_bind (a := (((crcL 4294967295 (l.drop 0)) ^^^ 4294967295 : Nat) : Int)) ?_ (ev_some _))
          unfold impl_check32.f
          rw [size_strOfNums]
          exact impl_from l hb hl l.length 0 4294967295 (by omega) (by omega)
    obtain ⟨r, hs, hi⟩ := hsame
    refine ev_bind hs (ev_bind (toByteS_ev l hl) (ev_bind hi (ev_if_pos rfl (ev_bind (toByteS_ev l hl) (ev_bind (eqByteS_ev l hl) ?_)))))
    exact ev_if_pos rfl (ev_some _)
end Go.Proofs.Ytdanonhkkdijnaa.Pure
