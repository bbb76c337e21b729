/- HashText answers as the reference's at every text: the plain form. No conditions. -/
import Derived.Test.YtdanonhkkdijnaaPFnExactHashTextx2
import Derived.Test.YtdanonhkkdijnaaU
import Derived.Laws.BitsLemmas
namespace Go.Proofs.Ytdanonhkkdijnaa.Pure
open Go.RowKit Go.Proofs.Ytdanonhkkdijnaa.PFnExactHashText Go.Proofs.YtdanonhkkdijnaaW.PrintWords Go.Proofs.YtdanonhkkdijnaaW.PrintLast Go.Proofs.YtdanonhkkdijnaaW.PrintMore Go.Proofs.Ytdanonhkkdijnaa.U
theorem isText_one (h : ByteArray) : impl_isText.f [h] = some (decide ((h.size : Int) ≤ 65536)) := by
  unfold impl_isText.f impl_isText.p
  simp only [List.any_cons, List.any_nil, Bool.or_false, Option.some.injEq]
  rw [Bool.eq_iff_iff]
  simp
theorem isHash_one (h : ByteArray) : impl_isHash.f [h] = some (decide ((h.size : Int) = 32)) := by
  unfold impl_isHash.f impl_isHash.p
  simp only [List.any_cons, List.any_nil, Bool.or_false, Option.some.injEq]
  rw [Bool.eq_iff_iff]
  simp

/-- From place i on both loops come to one text. -/
theorem hex_from (s : ByteArray) (hn : s.size = 32) (d : Nat) : ∀ (i : Int) (x : List Int), 0 ≤ i → i + d = 32 → x.length = 2 * i.toNat →
    ∃ r, Ev (fun k => spec_l01Hex.l0 k s x i) r ∧ Ev (fun k => impl_hexOf.l0 k s x (s.size : Int) i) r := by
  induction d with
  | zero =>
    intro i x h0 hi hx
    refine ⟨strOfNums x, ev_succ (ev_of_eq fun k => ?_), ev_succ (ev_of_eq fun k => ?_)⟩
    · simp only [spec_l01Hex.l0]; rw [if_neg (by omega)]
    · simp only [impl_hexOf.l0]; rw [if_neg (by omega)]
  | succ d ih =>
    intro i x h0 hi hx
    have hb := bt_range s i
    obtain ⟨r, hs, hm⟩ := ih (i + 1) (x ++ [bt (⟨#[48, 49, 50, 51, 52, 53, 54, 55, 56, 57, 97, 98, 99, 100, 101, 102]⟩ : ByteArray) (bt s i / 16), bt (⟨#[48, 49, 50, 51, 52, 53, 54, 55, 56, 57, 97, 98, 99, 100, 101, 102]⟩ : ByteArray) (bt s i % 16)]) (by omega) (by omega) (by simp [hx]; omega)
    have e1 : (Int.tdiv (bt s i) 16) % 256 = bt s i / 16 := by rw [Int.tdiv_eq_ediv_of_nonneg hb.1]; omega
    have e2 : Int.tmod (bt s i) 16 = bt s i % 16 := Int.tmod_eq_emod_of_nonneg hb.1
    have e3 : Go.bits .and .u8 (bt s i) 15 = bt s i % 16 := u8_and15 _ hb.1 (by omega)
    refine ⟨r, ev_succ (ev_congr (fun k => ?_) hs), ev_succ (ev_congr (fun k => ?_) hm)⟩
    · simp only [spec_l01Hex.l0, e1, e2]
      rw [if_pos (by omega), if_pos h0, if_pos (by omega), if_pos (by omega), if_pos (by omega), if_pos (by omega)]
      simp only [Option.bind_some]
      rw [if_pos (by simp; omega), wrap_in (by omega) (by omega)]
    · simp only [impl_hexOf.l0, e3]
      rw [if_pos (by omega), if_pos h0, if_pos (by omega), if_pos (by omega), if_pos (by omega), if_pos (by omega), if_pos (by omega)]
      simp only [Option.bind_some]
      rw [if_pos (by simp; omega), wrap_in (by omega) (by omega)]
theorem FnExactHashText : laws_FnExactHashText.Pure := by
  intro s _
  by_cases hb : (s.size : Int) > 1048576
  · exact ⟨0, by unfold laws_FnExactHashText.f; rw [if_pos hb]⟩
  · refine Ev.rounds (r := true) ?_
    unfold laws_FnExactHashText.f
    refine ev_if_neg hb ?_
    suffices h : ∃ r, Ev (fun k => spec_HashText.f k s) r ∧ Ev (fun k => impl_HashText.f k s) r by
      obtain ⟨r, h1, h2⟩ := h
      exact ev_bind h1 (ev_bind h2 (ev_if_pos rfl (ev_if_pos rfl (ev_some _))))
    unfold spec_HashText.f impl_HashText.f
    rw [isText_one, isHash_one]
    by_cases h1 : (s.size : Int) > 65536
    · exact ⟨_, ev_if_pos h1 (ev_some _), ev_of_eq fun k => by simp only [Option.bind_some]; rw [if_neg (by simp; omega)]⟩
    · by_cases h2 : (s.size : Int) = 32
      · obtain ⟨r, hs, hm⟩ := hex_from s (by omega) 32 0 [] (by omega) (by omega) rfl
        refine ⟨(r, 0), ev_if_neg h1 (ev_if_pos h2 (ev_bind hs (ev_some _))), ?_⟩
        refine ev_congr (fun k => ?_) (ev_bind (g := fun k => impl_hexOf.f k s) (f := fun _ t => some (t, (0 : Int))) hm (ev_some _))
        simp only [Option.bind_some]
        rw [if_pos (by simp; omega), if_pos (by simp; omega)]
      · exact ⟨_, ev_if_neg h1 (ev_if_neg h2 (ev_some _)), ev_of_eq fun k => by simp only [Option.bind_some]; rw [if_pos (by simp; omega), if_neg (by simp; omega)]⟩
end Go.Proofs.Ytdanonhkkdijnaa.Pure
