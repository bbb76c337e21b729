/- PeaksOK answers as the reference's at every list of peaks: the plain form. No conditions. -/
import Derived.Test.YtdanonhkkdijnaaQFnExactPeaksOK
import Derived.Test.YtdanonhkkdijnaaU
namespace Go.Proofs.Ytdanonhkkdijnaa.Pure
open Go.RowKit Go.Proofs.Ytdanonhkkdijnaa.PFnExactPeaksOK Go.Proofs.YtdanonhkkdijnaaW.PrintWords Go.Proofs.YtdanonhkkdijnaaW.PrintLast Go.Proofs.YtdanonhkkdijnaaW.PrintMore Go.Proofs.Ytdanonhkkdijnaa.U
def convPeak (x : S70) : S71 := ⟨x.f0, x.f1⟩
theorem toPeakS_ev (l : List S70) (hl : l.length ≤ 1048576) : Ev (fun k => laws_toPeakS.f k l) (l.map convPeak) := by
  have hml : (l.map convPeak).length = l.length := List.length_map _
  have key := ev_loop (fun k (s : List S71 × Int) => laws_toPeakS.l0 k l s.1 s.2) (fun s => 0 ≤ s.2 ∧ s.2 ≤ l.length ∧ s.1.length = l.length ∧ ∀ j : Nat, j < s.2.toNat → s.1[j]? = (l.map convPeak)[j]?) (fun s => l.length - s.2.toNat) (fun _ => l.map convPeak) (by
    rintro ⟨x, i⟩ ⟨h0, h1, h2, h3⟩
    simp only at h0 h1 h2 h3
    by_cases hi : i < (l.length : Int)
    · right
      obtain ⟨hs1, hs2⟩ := copy_step (l.map convPeak) x i.toNat (convPeak z70) (by rw [hml]; exact h2) (by rw [hml]; omega) h3
      have hg : (l.map convPeak).getD i.toNat (convPeak z70) = convPeak (rd_T70 l i) := by
        unfold rd_T70
        rw [List.getD_eq_getElem?_getD, List.getD_eq_getElem?_getD, List.getElem?_map]
        cases l[i.toNat]? <;> rfl
      rw [hg] at hs1 hs2
      rw [hml] at hs1
      refine ⟨(x.set i.toNat (convPeak (rd_T70 l i)), i + 1), ⟨by simp only; omega, by simp only; omega, hs1, fun j hj => hs2 j (by simp only at hj; omega)⟩, by simp only; omega, rfl, 0, fun j _ => ?_⟩
      show laws_toPeakS.l0 (j + 1) l x i = _
      simp only [laws_toPeakS.l0, laws_toPeak.f, Option.bind_some]
      rw [if_pos (by omega), if_pos h0, if_pos (by omega), wrap_in (x := i + 1) (by omega) (by omega)]
      rfl
    · left
      refine ⟨0, fun j _ => ?_⟩
      show laws_toPeakS.l0 (j + 1) l x i = _
      simp only [laws_toPeakS.l0]
      rw [if_neg (by omega), copy_end (l.map convPeak) x (by rw [hml]; exact h2) (fun j hj => h3 j (by rw [hml] at hj; omega))])
  have := key (List.replicate l.length z71, 0) ⟨by simp, by simp, by simp, fun j hj => absurd hj (by simp)⟩
  refine ev_congr (fun k => ?_) this
  unfold laws_toPeakS.f
  rw [if_pos (by omega), if_pos (by omega), Int.toNat_natCast]

theorem eqPeak_same (a0) (a1) : laws_eqPeak.f a0 a1 a0 a1 = some true := by
  unfold laws_eqPeak.f
  repeat' split
  all_goals first | rfl | (exfalso; simp_all)
theorem eqPeakS_ev (l : List S71) (hl : l.length ≤ 1048576) : Ev (fun k => laws_eqPeakS.f k l l) true := by
  have key := ev_loop (fun k (i : Int) => laws_eqPeakS.l0 k l l i) (fun i => 0 ≤ i ∧ i ≤ l.length) (fun i => l.length - i.toNat) (fun _ => true) (by
    rintro i ⟨h0, h1⟩
    by_cases hi : i < (l.length : Int)
    · right
      refine ⟨i + 1, ⟨by omega, by omega⟩, by omega, rfl, 0, fun j _ => ?_⟩
      simp only [laws_eqPeakS.l0, eqPeak_same, Option.bind_some]
      rw [if_pos hi, if_pos h0, if_pos hi, if_pos trivial, wrap_in (by omega) (by omega)]
    · left
      refine ⟨0, fun j _ => ?_⟩
      simp only [laws_eqPeakS.l0]
      rw [if_neg hi])
  refine ev_congr (fun k => ?_) (key 0 ⟨by omega, by omega⟩)
  unfold laws_eqPeakS.f
  rw [if_pos rfl]

theorem szPeak_some (x : S70) (hg : g70 x) (n : Int) (h0 : 0 ≤ n) (h1 : n ≤ 1048576) : ∃ s, laws_szPeak.f x.f0 x.f1 n = some s ∧ s ≤ n ∧ (0 ≤ s ∨ s = -1) := by
  unfold laws_szPeak.f
  have hb1 : x.f1.size ≤ maxLen := hg.2
  unfold maxLen at *
  have hw0 : wrap64 (n - (x.f1.size : Int)) = n - (x.f1.size : Int) := wrap_in (by omega) (by omega)
  by_cases c0 : n - (x.f1.size : Int) < 0
  · refine ⟨-1, ?_, by omega, .inr rfl⟩
    simp only [hw0]
    rw [if_pos c0]
  · skip
    refine ⟨n - (x.f1.size : Int), ?_, by omega, .inl (by omega)⟩
    simp only [hw0]
    rw [if_neg c0]

theorem szPeakS_ev (l : List S70) (hg : Open.GL g70 l) (n : Int) (h0 : 0 ≤ n) (h1 : n ≤ 1048576) : ∃ s, Ev (fun k => laws_szPeakS.f k l n) s ∧ (0 ≤ s → (l.length : Int) ≤ n ∧ s ≤ n) := by
  have hm := hg.1
  unfold maxLen at hm
  have hw : wrap64 (n - (l.length : Int)) = n - (l.length : Int) := wrap_in (by omega) (by omega)
  by_cases hneg : n - (l.length : Int) < 0
  · exact ⟨-1, ev_of_eq fun k => by unfold laws_szPeakS.f; rw [hw, if_pos hneg], fun h => absurd h (by omega)⟩
  · have key : ∀ (d i : Nat) (v : Int), i + d = l.length → 0 ≤ v → v ≤ n → ∃ s, Ev (fun k => laws_szPeakS.l0 k l v (i : Int)) s ∧ (0 ≤ s → s ≤ n) := by
      intro d
      induction d with
      | zero =>
        intro i v hi hv0 hv1
        exact ⟨v, ev_succ (ev_of_eq fun k => by simp only [laws_szPeakS.l0]; rw [if_neg (by omega)]), fun _ => hv1⟩
      | succ d ih =>
        intro i v hi hv0 hv1
        have hmem : rd_T70 l (i : Int) ∈ l := by
          unfold rd_T70
          rw [Int.toNat_natCast, List.getD_eq_getElem?_getD, List.getElem?_eq_getElem (by omega), Option.getD_some]
          exact List.getElem_mem _
        obtain ⟨s, hs, hle, hor⟩ := szPeak_some (rd_T70 l (i : Int)) (hg.2 _ hmem) v hv0 (by omega)
        by_cases hs0 : s < 0
        · refine ⟨-1, ev_succ (ev_of_eq fun k => ?_), fun h => absurd h (by omega)⟩
          simp only [laws_szPeakS.l0, hs, Option.bind_some]
          rw [if_pos (by omega), if_pos (by omega), if_pos hs0]
        · obtain ⟨r, hr, hrn⟩ := ih (i + 1) s (by omega) (by omega) (by omega)
          refine ⟨r, ev_succ (ev_congr (fun k => ?_) hr), hrn⟩
          simp only [laws_szPeakS.l0, hs, Option.bind_some]
          rw [if_pos (by omega), if_pos (by omega), if_neg hs0, wrap_in (x := (i : Int) + 1) (by omega) (by omega)]
          rfl
    obtain ⟨s, hs, hsn⟩ := key l.length 0 (n - (l.length : Int)) (by omega) (by omega) (by omega)
    refine ⟨s, ev_congr (fun k => ?_) hs, fun h => ⟨by omega, hsn h⟩⟩
    unfold laws_szPeakS.f
    rw [hw, if_neg hneg]
    rfl

theorem isHash_one (h : ByteArray) : impl_isHash.f [h] = some (decide ((h.size : Int) = 32)) := by
  unfold impl_isHash.f impl_isHash.p
  simp only [List.any_cons, List.any_nil, Bool.or_false, Option.some.injEq]
  rw [Bool.eq_iff_iff]
  simp
/-- A peak that is right, by itself. -/
def pk (x : S71) : Bool := decide (1 ≤ x.f0 ∧ x.f0 ≤ 64) && decide (Go.bits .and .i64 x.f0 (wrap64 (x.f0 - 1)) = 0) && decide ((x.f1.size : Int) = 32)
/-- From place i on both come to one answer; where it is false a peak is not right, or does not fall. -/
theorem both (l : List S71) (hl : l.length ≤ 1048576) (d : Nat) : ∀ (i : Nat) (s : Int), i + d = l.length →
    ∃ b, Ev (fun k => spec_PeaksOK.l0 k l s (i : Int)) b ∧ Ev (fun k => impl_PeaksOK.l0 k l s l (l.length : Int) (i : Int)) b ∧
      (b = true → ∀ j : Nat, i ≤ j → j < l.length → 1 ≤ (rd_T71 l (j : Int)).f0 ∧ (rd_T71 l (j : Int)).f0 ≤ 64 ∧ (0 < j → (rd_T71 l (j : Int)).f0 < (rd_T71 l ((j : Int) - 1)).f0)) := by
  induction d with
  | zero =>
    intro i s hi
    refine ⟨decide (s ≤ 64), ev_succ (ev_of_eq fun k => ?_), ev_succ (ev_of_eq fun k => ?_), fun _ j h1 h2 => by omega⟩
    · simp only [spec_PeaksOK.l0]; rw [if_neg (by omega)]
    · simp only [impl_PeaksOK.l0]; rw [if_neg (by omega)]
  | succ d ih =>
    intro i s hi
    have hi1 : (i : Int) < (l.length : Int) := by omega
    have hi0 : 0 ≤ (i : Int) := by omega
    have hw : wrap64 ((i : Int) + 1) = ((i + 1 : Nat) : Int) := by rw [wrap_in (by omega) (by omega)]; omega
    obtain ⟨b, hs, hm, hb⟩ := ih (i + 1) (wrap64 (s + (rd_T71 l (i : Int)).f0)) (by omega)
    rw [← hw] at hs hm
    generalize hx : rd_T71 l (i : Int) = x at *
    by_cases c1 : 1 ≤ x.f0 ∧ x.f0 ≤ 64
    · have e1 : spec_l01In.f x.f0 1 64 = some true := by unfold spec_l01In.f; rw [if_pos (by omega)]; simp [c1.2]
      have e2 : impl_within.f x.f0 1 64 = some true := by unfold impl_within.f; rw [if_pos (by omega)]; simp [c1.2]
      by_cases c2 : Go.bits .and .i64 x.f0 (wrap64 (x.f0 - 1)) = 0
      · by_cases c3 : (x.f1.size : Int) = 32
        · have e3 : impl_isHash.f [x.f1] = some true := by rw [isHash_one, decide_eq_true c3]
          by_cases c4 : (i : Int) > 0
          · have hp : wrap64 ((i : Int) - 1) = (i : Int) - 1 := wrap_in (by omega) (by omega)
            by_cases c5 : (rd_T71 l ((i : Int) - 1)).f0 ≤ x.f0
            · refine ⟨false, ev_succ (ev_of_eq fun k => ?_), ev_succ (ev_of_eq fun k => ?_), fun h => Bool.noConfusion h⟩
              · simp only [spec_PeaksOK.l0, hx, e1, hp, Option.bind_some]
                rw [if_pos hi1, if_pos hi0, if_pos trivial, if_pos c2, if_pos c3, if_pos c4, if_pos (by omega), if_pos (by omega), if_pos c5]
              · simp only [impl_PeaksOK.l0, hx, e2, e3, hp, Option.bind_some]
                rw [if_pos hi1, if_pos hi0, if_pos hi1, if_pos trivial, if_pos c2, if_pos c4, if_pos (by omega), if_pos (by omega), if_pos c5]
            · refine ⟨b, ev_succ (ev_congr (fun k => ?_) hs), ev_succ (ev_congr (fun k => ?_) hm), fun hbt j h1 h2 => ?_⟩
              · simp only [spec_PeaksOK.l0, hx, e1, hp, Option.bind_some]
                rw [if_pos hi1, if_pos hi0, if_pos trivial, if_pos c2, if_pos c3, if_pos c4, if_pos (by omega), if_pos (by omega), if_neg c5]
              · simp only [impl_PeaksOK.l0, hx, e2, e3, hp, Option.bind_some]
                rw [if_pos hi1, if_pos hi0, if_pos hi1, if_pos trivial, if_pos c2, if_pos c4, if_pos (by omega), if_pos (by omega), if_neg c5, if_pos trivial]
              · rcases Nat.eq_or_lt_of_le h1 with he | hlt
                · subst he
                  rw [hx]
                  exact ⟨c1.1, c1.2, fun _ => by omega⟩
                · exact hb hbt j (by omega) h2
          · refine ⟨b, ev_succ (ev_congr (fun k => ?_) hs), ev_succ (ev_congr (fun k => ?_) hm), fun hbt j h1 h2 => ?_⟩
            · simp only [spec_PeaksOK.l0, hx, e1, Option.bind_some]
              rw [if_pos hi1, if_pos hi0, if_pos trivial, if_pos c2, if_pos c3, if_neg c4]
            · simp only [impl_PeaksOK.l0, hx, e2, e3, Option.bind_some]
              rw [if_pos hi1, if_pos hi0, if_pos hi1, if_pos trivial, if_pos c2, if_neg c4, if_pos trivial]
            · rcases Nat.eq_or_lt_of_le h1 with he | hlt
              · subst he
                rw [hx]
                exact ⟨c1.1, c1.2, fun h => absurd h (by omega)⟩
              · exact hb hbt j (by omega) h2
        · have e3 : impl_isHash.f [x.f1] = some false := by rw [isHash_one, decide_eq_false c3]
          refine ⟨false, ev_succ (ev_of_eq fun k => ?_), ev_succ (ev_of_eq fun k => ?_), fun h => Bool.noConfusion h⟩
          · simp only [spec_PeaksOK.l0, hx, e1, Option.bind_some]
            rw [if_pos hi1, if_pos hi0, if_pos trivial, if_pos c2, if_neg c3]
          · have hp : (i : Int) > 0 → wrap64 ((i : Int) - 1) = (i : Int) - 1 := fun h => wrap_in (by omega) (by omega)
            simp only [impl_PeaksOK.l0, hx, e2, e3, Option.bind_some]
            rw [if_pos hi1, if_pos hi0, if_pos hi1, if_pos trivial, if_pos c2]
            by_cases c4 : (i : Int) > 0
            · rw [if_pos c4, hp c4, if_pos (by omega), if_pos (by omega)]
              split
              · rfl
              · rw [if_neg (by simp)]
            · rw [if_neg c4, if_neg (by simp)]
      · refine ⟨false, ev_succ (ev_of_eq fun k => ?_), ev_succ (ev_of_eq fun k => ?_), fun h => Bool.noConfusion h⟩
        · simp only [spec_PeaksOK.l0, hx, e1, Option.bind_some]
          rw [if_pos hi1, if_pos hi0, if_pos trivial, if_neg c2]
        · simp only [impl_PeaksOK.l0, hx, e2, Option.bind_some]
          rw [if_pos hi1, if_pos hi0, if_pos hi1, if_pos trivial, if_neg c2]
    · have e1 : spec_l01In.f x.f0 1 64 = some false := by unfold spec_l01In.f; split <;> simp <;> omega
      have e2 : impl_within.f x.f0 1 64 = some false := by unfold impl_within.f; split <;> simp <;> omega
      refine ⟨false, ev_succ (ev_of_eq fun k => ?_), ev_succ (ev_of_eq fun k => ?_), fun h => Bool.noConfusion h⟩
      · simp only [spec_PeaksOK.l0, hx, e1, Option.bind_some]
        rw [if_pos hi1, if_pos hi0, if_neg (by simp)]
      · simp only [impl_PeaksOK.l0, hx, e2, Option.bind_some]
        rw [if_pos hi1, if_pos hi0, if_pos hi1, if_neg (by simp)]
theorem peaks_same (l : List S71) (hl : l.length ≤ 1048576) : ∃ b, Ev (fun k => spec_PeaksOK.f k l) b ∧ Ev (fun k => impl_PeaksOK.f k l) b := by
  obtain ⟨b, hs, hm, hb⟩ := both l hl l.length 0 0 (by omega)
  unfold spec_PeaksOK.f impl_PeaksOK.f
  by_cases hbig : (l.length : Int) > 4096
  · refine ⟨false, ev_if_pos hbig (ev_some _), ?_⟩
    have hf : b = false := by
      rw [Bool.eq_false_iff]
      intro ht
      have hall := hb ht
      have key : ∀ j : Nat, j < l.length → (rd_T71 l (j : Int)).f0 + j ≤ 64 := by
        intro j
        induction j with
        | zero => intro h; have := hall 0 (by omega) h; omega
        | succ j ih =>
          intro h
          have h1 := ih (by omega)
          have h2 := (hall (j + 1) (by omega) h).2.2 (by omega)
          rw [show (((j + 1 : Nat) : Int) - 1) = (j : Int) from by omega] at h2
          omega
      have h1 := key 64 (by omega)
      have h2 := (hall 64 (by omega) (by omega)).1
      omega
    subst hf
    exact hm
  · exact ⟨b, ev_if_neg hbig hs, hm⟩
theorem FnExactPeaksOK : laws_FnExactPeaksOK.Pure := by
  intro l hg
  refine Ev.rounds (r := true) ?_
  unfold laws_FnExactPeaksOK.f
  obtain ⟨s, hs, hlen⟩ := szPeakS_ev l hg 1048576 (by omega) (by omega)
  refine ev_bind hs ?_
  by_cases hneg : s < 0
  · exact ev_if_pos hneg (ev_some _)
  · obtain ⟨hl, _⟩ := hlen (by omega)
    have ht := toPeakS_ev l (by omega)
    have hml : (l.map convPeak).length = l.length := List.length_map _
    obtain ⟨b, h1, h2⟩ := peaks_same (l.map convPeak) (by omega)
    have he := eqPeakS_ev (l.map convPeak) (by omega)
    exact ev_if_neg hneg (ev_bind ht (ev_bind h1 (ev_bind ht (ev_bind h2 (ev_if_neg (by simp) (ev_bind ht (ev_bind he (ev_if_pos rfl (ev_some _)))))))))
end Go.Proofs.Ytdanonhkkdijnaa.Pure
