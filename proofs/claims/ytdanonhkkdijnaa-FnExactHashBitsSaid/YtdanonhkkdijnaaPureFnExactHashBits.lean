/- HashBits answers as the reference's at every text: the plain form. No conditions. -/
import Derived.Test.YtdanonhkkdijnaaPFnExactHashBitsx1
import Derived.Test.YtdanonhkkdijnaaU
import Derived.Laws.BitsAllLaws
namespace Go.Proofs.Ytdanonhkkdijnaa.Pure
open Go.RowKit Go.Proofs.Ytdanonhkkdijnaa.PFnExactHashBits Go.Proofs.YtdanonhkkdijnaaW.PrintWords Go.Proofs.YtdanonhkkdijnaaW.PrintLast Go.Proofs.YtdanonhkkdijnaaW.PrintMore Go.Proofs.Ytdanonhkkdijnaa.U
theorem isText_one (h : ByteArray) : impl_isText.f [h] = some (decide ((h.size : Int) ≤ 65536)) := by
  unfold impl_isText.f impl_isText.p
  simp only [List.any_cons, List.any_nil, Bool.or_false, Option.some.injEq]
  rw [Bool.eq_iff_iff]
  simp
theorem isHash_one (h : ByteArray) : impl_isHash.f [h] = some (decide ((h.size : Int) = 32)) := by
  unfold impl_isHash.f impl_isHash.p
  simp only [List.any_cons, List.any_nil, Bool.or_false, Option.some.injEq]
  rw [Bool.eq_iff_iff]
  simp

/-- One bit of a byte, as a digit: every byte and every place. -/
theorem digit_same (c : Int) (h0 : 0 ≤ c) (h1 : c ≤ 255) (j : Nat) (hj : j < 8) : (48 + (Go.bits .and .u8 (shr .u8 c (IntKind.u64.wrap (j : Int))) 1)) % 256 = (wrap64 (48 + Go.bits .and .i64 (wrap64 (shr .u8 c (j : Int))) 1)) % 256 := by
  obtain ⟨b, rfl⟩ := Int.eq_ofNat_of_zero_le h0
  have key : ∀ b : Fin 256, ∀ j : Fin 8, (48 + (Go.bits .and .u8 (shr .u8 ((b.val : Nat) : Int) (IntKind.u64.wrap ((j.val : Nat) : Int))) 1)) % 256 = (wrap64 (48 + Go.bits .and .i64 (wrap64 (shr .u8 ((b.val : Nat) : Int) ((j.val : Nat) : Int))) 1)) % 256 := by decide +kernel
  exact key ⟨b, by omega⟩ ⟨j, hj⟩
/-- The digit of bit n of the text. -/
def dig (s : ByteArray) (n : Int) : Int := (48 + (Go.bits .and .u8 (shr .u8 (bt s (n / 8)) (IntKind.u64.wrap (7 - n % 8))) 1)) % 256
theorem impl_step (k : Nat) (s : ByteArray) (hn : s.size = 32) (x : List Int) (n : Int) (h0 : 0 ≤ n) (h1 : n < 256) (hx : x.length = n.toNat) :
    impl_HashBits.l0 (k + 1) s x n = impl_HashBits.l0 k s (x ++ [dig s n]) (n + 1) := by
  simp only [impl_HashBits.l0, impl_bit.f]
  have e1 : wrap64 (Int.tdiv n 8) = n / 8 := by rw [Int.tdiv_eq_ediv_of_nonneg h0, wrap_in (by omega) (by omega)]
  have e2 : wrap64 (7 - Int.tmod n 8) = 7 - n % 8 := by rw [Int.tmod_eq_emod_of_nonneg h0, wrap_in (by omega) (by omega)]
  rw [e1, e2, if_pos h1, if_pos (by omega), if_pos (by omega), if_pos (by omega)]
  simp only [Option.bind_some]
  rw [if_pos (by omega), wrap_in (x := n + 1) (by omega) (by omega)]
  have hb := bt_range s (n / 8)
  obtain ⟨j, hj⟩ := Int.eq_ofNat_of_zero_le (show 0 ≤ 7 - n % 8 by omega)
  have := digit_same (bt s (n / 8)) hb.1 hb.2 j (by omega)
  unfold dig
  rw [hj, this]
theorem spec_bit (k : Nat) (s : ByteArray) (hn : s.size = 32) (x : List Int) (i j : Int) (h0 : 0 ≤ i ∧ i < 32) (h1 : 0 ≤ j ∧ j < 8) (hx : x.length = (8 * i + (7 - j)).toNat) :
    spec_l01Bits.l1 (k + 1) s x i j = spec_l01Bits.l1 k s (x ++ [dig s (8 * i + (7 - j))]) i (j - 1) := by
  simp only [spec_l01Bits.l1]
  have e : IntKind.u64.wrap j = j := by rw [IntKind.wrap_u64]; omega
  rw [if_pos (by omega), if_pos h0.1, if_pos (by omega), if_pos (by rw [e]; omega), if_pos (by omega), wrap_in (x := j - 1) (by omega) (by omega)]
  unfold dig
  rw [show (8 * i + (7 - j)) / 8 = i from by omega, show 7 - (8 * i + (7 - j)) % 8 = j from by omega]
theorem bits_from (s : ByteArray) (hn : s.size = 32) (d : Nat) : ∀ (n : Int) (x : List Int), 0 ≤ n → n + d = 256 → x.length = n.toNat →
    ∃ r, Ev (fun k => impl_HashBits.l0 k s x n) (r, 0) ∧ (0 < d → Ev (fun k => spec_l01Bits.l1 k s x (n / 8) (7 - n % 8)) r) ∧ (n % 8 = 0 → Ev (fun k => spec_l01Bits.l0 k s x (n / 8)) r) := by
  induction d with
  | zero =>
    intro n x h0 hi hx
    refine ⟨strOfNums x, ev_succ (ev_of_eq fun k => ?_), fun h => absurd h (by omega), fun _ => ev_succ (ev_of_eq fun k => ?_)⟩
    · simp only [impl_HashBits.l0]; rw [if_neg (by omega)]
    · simp only [spec_l01Bits.l0]; rw [if_neg (by omega)]
  | succ d ih =>
    intro n x h0 hi hx
    obtain ⟨r, h1, h2, h3⟩ := ih (n + 1) (x ++ [dig s n]) (by omega) (by omega) (by simp [hx]; omega)
    have hL : Ev (fun k => spec_l01Bits.l1 k s x (n / 8) (7 - n % 8)) r := by
      refine ev_succ (ev_congr (fun k => spec_bit k s hn x (n / 8) (7 - n % 8) ⟨by omega, by omega⟩ ⟨by omega, by omega⟩ (by rw [hx]; congr 1; omega)) ?_)
      rw [show 8 * (n / 8) + (7 - (7 - n % 8)) = n from by omega]
      by_cases h7 : n % 8 = 7
      · rw [show 7 - n % 8 - 1 = -1 from by omega]
        refine ev_succ (ev_congr (fun k => ?_) (h3 (by omega)))
        simp only [spec_l01Bits.l1]
        rw [if_neg (by omega), wrap_in (by omega) (by omega), show n / 8 + 1 = (n + 1) / 8 from by omega]
      · have := h2 (by omega)
        rw [show (n + 1) / 8 = n / 8 from by omega, show 7 - (n + 1) % 8 = 7 - n % 8 - 1 from by omega] at this
        exact this
    refine ⟨r, ev_succ (ev_congr (fun k => impl_step k s hn x n h0 (by omega) hx) h1), fun _ => hL, fun h8 => ?_⟩
    refine ev_succ (ev_congr (fun k => ?_) hL)
    simp only [spec_l01Bits.l0]
    rw [if_pos (by omega), show 7 - n % 8 = 7 from by omega]
theorem FnExactHashBits : laws_FnExactHashBits.Pure := by
  intro s _
  by_cases hb : (s.size : Int) > 1048576
  · exact ⟨0, by unfold laws_FnExactHashBits.f; rw [if_pos hb]⟩
  · refine Ev.rounds (r := true) ?_
    unfold laws_FnExactHashBits.f
    refine ev_if_neg hb ?_
    suffices h : ∃ r, Ev (fun k => spec_HashBits.f k s) r ∧ Ev (fun k => impl_HashBits.f k s) r by
      obtain ⟨r, h1, h2⟩ := h
      exact ev_bind h1 (ev_bind h2 (ev_if_pos rfl (ev_if_pos rfl (ev_some _))))
    unfold spec_HashBits.f impl_HashBits.f
    rw [isText_one, isHash_one]
    by_cases h1 : (s.size : Int) > 65536
    · exact ⟨_, ev_if_pos h1 (ev_some _), ev_of_eq fun k => by simp only [Option.bind_some]; rw [if_neg (by simp; omega)]⟩
    · by_cases h2 : (s.size : Int) = 32
      · obtain ⟨r, hm, _, hs⟩ := bits_from s (by omega) 256 0 [] (by omega) (by omega) rfl
        have hs0 := hs (by omega)
        refine ⟨(r, 0), ev_if_neg h1 (ev_if_pos h2 (ev_bind (g := fun k => spec_l01Bits.f k s) hs0 (ev_some _))), ?_⟩
        refine ev_congr (fun k => ?_) hm
        simp only [Option.bind_some]
        rw [if_pos (by simp; omega), if_pos (by simp; omega)]
      · exact ⟨_, ev_if_neg h1 (ev_if_neg h2 (ev_some _)), ev_of_eq fun k => by simp only [Option.bind_some]; rw [if_pos (by simp; omega), if_neg (by simp; omega)]⟩
end Go.Proofs.Ytdanonhkkdijnaa.Pure
