/- AddPeak answers as the reference's at every list of peaks and every leaf: the plain form. No conditions. -/
import Derived.Test.YtpoaapedcmfcfaaMFnExactAddPeakQFnExactAddPeak
import Derived.Test.YtpoaapedcmfcfaaMFnExactAddPeakU
namespace Go.Proofs.Ytpoaapedcmfcfaa.Pure
open Go.RowKit Go.Proofs.Ytpoaapedcmfcfaa.PFnExactAddPeak Go.Proofs.YtpoaapedcmfcfaaW.PrintWords Go.Proofs.YtpoaapedcmfcfaaW.PrintLast Go.Proofs.YtpoaapedcmfcfaaW.PrintMore Go.Proofs.Ytpoaapedcmfcfaa.U
set_option linter.unusedVariables false
set_option linter.unusedSimpArgs false
def convPeak (x : S64) : S67 := ⟨x.f0, x.f1⟩
theorem toPeakS_ev (l : List S64) (hl : l.length ≤ 1048576) : Ev (fun k => laws_toPeakS.f k l) (l.map convPeak) := by
  have hml : (l.map convPeak).length = l.length := List.length_map _
  have key := ev_loop (fun k (s : List S67 × Int) => laws_toPeakS.l0 k l s.1 s.2) (fun s => 0 ≤ s.2 ∧ s.2 ≤ l.length ∧ s.1.length = l.length ∧ ∀ j : Nat, j < s.2.toNat → s.1[j]? = (l.map convPeak)[j]?) (fun s => l.length - s.2.toNat) (fun _ => l.map convPeak) (by
    rintro ⟨x, i⟩ ⟨h0, h1, h2, h3⟩
    simp only at h0 h1 h2 h3
    by_cases hi : i < (l.length : Int)
    · right
      obtain ⟨hs1, hs2⟩ := copy_step (l.map convPeak) x i.toNat (convPeak z64) (by rw [hml]; exact h2) (by rw [hml]; omega) h3
      have hg : (l.map convPeak).getD i.toNat (convPeak z64) = convPeak (rd_T64 l i) := by
        unfold rd_T64
        rw [List.getD_eq_getElem?_getD, List.getD_eq_getElem?_getD, List.getElem?_map]
        cases l[i.toNat]? <;> rfl
      rw [hg] at hs1 hs2
      rw [hml] at hs1
      refine ⟨(x.set i.toNat (convPeak (rd_T64 l i)), i + 1), ⟨by simp only; omega, by simp only; omega, hs1, fun j hj => hs2 j (by simp only at hj; omega)⟩, by simp only; omega, rfl, 0, fun j _ => ?_⟩
      show laws_toPeakS.l0 (j + 1) l x i = _
      simp only [laws_toPeakS.l0, laws_toPeak.f, Option.bind_some]
      rw [if_pos (by omega), if_pos h0, if_pos (by omega), wrap_in (x := i + 1) (by omega) (by omega)]
      rfl
    · left
      refine ⟨0, fun j _ => ?_⟩
      show laws_toPeakS.l0 (j + 1) l x i = _
      simp only [laws_toPeakS.l0]
      rw [if_neg (by omega), copy_end (l.map convPeak) x (by rw [hml]; exact h2) (fun j hj => h3 j (by rw [hml] at hj; omega))])
  have := key (List.replicate l.length z67, 0) ⟨by simp, by simp, by simp, fun j hj => absurd hj (by simp)⟩
  refine ev_congr (fun k => ?_) this
  unfold laws_toPeakS.f
  rw [if_pos (by omega), if_pos (by omega), Int.toNat_natCast]

theorem eqPeak_same (a0) (a1) : laws_eqPeak.f a0 a1 a0 a1 = some true := by
  unfold laws_eqPeak.f
  repeat' split
  all_goals first | rfl | (exfalso; simp_all)
theorem eqPeakS_ev (l : List S67) (hl : l.length ≤ 1048576) : Ev (fun k => laws_eqPeakS.f k l l) true := by
  have key := ev_loop (fun k (i : Int) => laws_eqPeakS.l0 k l l i) (fun i => 0 ≤ i ∧ i ≤ l.length) (fun i => l.length - i.toNat) (fun _ => true) (by
    rintro i ⟨h0, h1⟩
    by_cases hi : i < (l.length : Int)
    · right
      refine ⟨i + 1, ⟨by omega, by omega⟩, by omega, rfl, 0, fun j _ => ?_⟩
      simp only [laws_eqPeakS.l0, eqPeak_same, Option.bind_some]
      rw [if_pos hi, if_pos h0, if_pos hi, if_pos trivial, wrap_in (by omega) (by omega)]
    · left
      refine ⟨0, fun j _ => ?_⟩
      simp only [laws_eqPeakS.l0]
      rw [if_neg hi])
  refine ev_congr (fun k => ?_) (key 0 ⟨by omega, by omega⟩)
  unfold laws_eqPeakS.f
  rw [if_pos rfl]

/-- The texts of one are no longer than what is left. -/
def BPeak (x : S64) (n : Int) : Prop := (x.f1.size : Int) ≤ n
theorem szPeak_some (x : S64) (hg : g64 x) (n : Int) (h0 : 0 ≤ n) (h1 : n ≤ 1048576) : ∃ s, laws_szPeak.f x.f0 x.f1 n = some s ∧ s ≤ n ∧ (0 ≤ s ∨ s = -1) ∧ (0 ≤ s → BPeak x n) := by
  unfold laws_szPeak.f BPeak
  have hb1 : x.f1.size ≤ maxLen := hg.2
  unfold maxLen at *
  have hw0 : wrap64 (n - (x.f1.size : Int)) = n - (x.f1.size : Int) := wrap_in (by omega) (by omega)
  by_cases c0 : n - (x.f1.size : Int) < 0
  · refine ⟨-1, ?_, by omega, .inr rfl, fun h => absurd h (by omega)⟩
    simp only [hw0]
    rw [if_pos c0]
  · skip
    refine ⟨n - (x.f1.size : Int), ?_, by omega, .inl (by omega), fun _ => by omega⟩
    simp only [hw0]
    rw [if_neg c0]

theorem szPeakS_ev (l : List S64) (hg : Open.GL g64 l) (n : Int) (h0 : 0 ≤ n) (h1 : n ≤ 1048576) : ∃ s, Ev (fun k => laws_szPeakS.f k l n) s ∧ (s = -1 ∨ 0 ≤ s ∧ (l.length : Int) ≤ n ∧ s ≤ n ∧ ∀ x ∈ l, BPeak x n) := by
  have hm := hg.1
  unfold maxLen at hm
  have hw : wrap64 (n - (l.length : Int)) = n - (l.length : Int) := wrap_in (by omega) (by omega)
  by_cases hneg : n - (l.length : Int) < 0
  · exact ⟨-1, ev_of_eq fun k => by unfold laws_szPeakS.f; rw [hw, if_pos hneg], .inl rfl⟩
  · have key : ∀ (d i : Nat) (v : Int), i + d = l.length → 0 ≤ v → v ≤ n → ∃ s, Ev (fun k => laws_szPeakS.l0 k l v (i : Int)) s ∧ (s = -1 ∨ 0 ≤ s ∧ s ≤ n ∧ ∀ x ∈ l.drop i, BPeak x n) := by
      intro d
      induction d with
      | zero =>
        intro i v hi hv0 hv1
        exact ⟨v, ev_succ (ev_of_eq fun k => by simp only [laws_szPeakS.l0]; rw [if_neg (by omega)]), .inr ⟨hv0, hv1, fun x hx => by rw [List.drop_eq_nil_of_le (by omega)] at hx; simp at hx⟩⟩
      | succ d ih =>
        intro i v hi hv0 hv1
        have hmem : rd_T64 l (i : Int) ∈ l := by
          unfold rd_T64
          rw [Int.toNat_natCast, List.getD_eq_getElem?_getD, List.getElem?_eq_getElem (by omega), Option.getD_some]
          exact List.getElem_mem _
        obtain ⟨s, hs, hle, hor, hB⟩ := szPeak_some (rd_T64 l (i : Int)) (hg.2 _ hmem) v hv0 (by omega)
        by_cases hs0 : s < 0
        · refine ⟨-1, ev_succ (ev_of_eq fun k => ?_), .inl rfl⟩
          simp only [laws_szPeakS.l0, hs, Option.bind_some]
          rw [if_pos (by omega), if_pos (by omega), if_pos hs0]
        · obtain ⟨r, hr, hrn⟩ := ih (i + 1) s (by omega) (by omega) (by omega)
          refine ⟨r, ev_succ (ev_congr (fun k => ?_) hr), ?_⟩
          · simp only [laws_szPeakS.l0, hs, Option.bind_some]
            rw [if_pos (by omega), if_pos (by omega), if_neg hs0, wrap_in (x := (i : Int) + 1) (by omega) (by omega)]
            rfl
          · rcases hrn with h | ⟨ha, hb, hall⟩
            · exact .inl h
            · refine .inr ⟨ha, hb, fun x hx => ?_⟩
              rw [List.drop_eq_getElem_cons (by omega)] at hx
              rcases List.mem_cons.1 hx with rfl | hx
              · have hq := hB (by omega)
                unfold rd_T64 at hq
                rw [Int.toNat_natCast, List.getD_eq_getElem?_getD, List.getElem?_eq_getElem (by omega), Option.getD_some] at hq
                unfold BPeak at hq ⊢
                omega
              · exact hall x hx
    obtain ⟨s, hs, hsn⟩ := key l.length 0 (n - (l.length : Int)) (by omega) (by omega) (by omega)
    refine ⟨s, ev_congr (fun k => ?_) hs, ?_⟩
    · unfold laws_szPeakS.f
      rw [hw, if_neg hneg]
      rfl
    · rcases hsn with h | ⟨ha, hb, hall⟩
      · exact .inl h
      · exact .inr ⟨ha, by omega, hb, fun x hx => hall x (by simpa using hx)⟩

theorem isHash_one (h : ByteArray) : impl_isHash.f [h] = some (decide ((h.size : Int) = 32)) := by
  unfold impl_isHash.f impl_isHash.p
  simp only [List.any_cons, List.any_nil, Bool.or_false, Option.some.injEq]
  rw [Bool.eq_iff_iff]
  simp
/-- A peak that is right, by itself. -/
def pk (x : S67) : Bool := decide (1 ≤ x.f0 ∧ x.f0 ≤ 64) && decide (Go.bits .and .i64 x.f0 (wrap64 (x.f0 - 1)) = 0) && decide ((x.f1.size : Int) = 32)
/-- From place i on both come to one answer; where it is false a peak is not right, or does not fall. -/
theorem both (l : List S67) (hl : l.length ≤ 1048576) (d : Nat) : ∀ (i : Nat) (s : Int), i + d = l.length →
    ∃ b, Ev (fun k => spec_PeaksOK.l0 k l s (i : Int)) b ∧ Ev (fun k => impl_PeaksOK.l0 k l s l (l.length : Int) (i : Int)) b ∧
      (b = true → ∀ j : Nat, i ≤ j → j < l.length → 1 ≤ (rd_T67 l (j : Int)).f0 ∧ (rd_T67 l (j : Int)).f0 ≤ 64 ∧ (0 < j → (rd_T67 l (j : Int)).f0 < (rd_T67 l ((j : Int) - 1)).f0) ∧ ((rd_T67 l (j : Int)).f1.size : Int) = 32) := by
  induction d with
  | zero =>
    intro i s hi
    refine ⟨decide (s ≤ 64), ev_succ (ev_of_eq fun k => ?_), ev_succ (ev_of_eq fun k => ?_), fun _ j h1 h2 => by omega⟩
    · simp only [spec_PeaksOK.l0]; rw [if_neg (by omega)]
    · simp only [impl_PeaksOK.l0]; rw [if_neg (by omega)]
  | succ d ih =>
    intro i s hi
    have hi1 : (i : Int) < (l.length : Int) := by omega
    have hi0 : 0 ≤ (i : Int) := by omega
    have hw : wrap64 ((i : Int) + 1) = ((i + 1 : Nat) : Int) := by rw [wrap_in (by omega) (by omega)]; omega
    obtain ⟨b, hs, hm, hb⟩ := ih (i + 1) (wrap64 (s + (rd_T67 l (i : Int)).f0)) (by omega)
    rw [← hw] at hs hm
    generalize hx : rd_T67 l (i : Int) = x at *
    by_cases c1 : 1 ≤ x.f0 ∧ x.f0 ≤ 64
    · have e1 : spec_l01In.f x.f0 1 64 = some true := by unfold spec_l01In.f; rw [if_pos (by omega)]; simp [c1.2]
      have e2 : impl_within.f x.f0 1 64 = some true := by unfold impl_within.f; rw [if_pos (by omega)]; simp [c1.2]
      by_cases c2 : Go.bits .and .i64 x.f0 (wrap64 (x.f0 - 1)) = 0
      · by_cases c3 : (x.f1.size : Int) = 32
        · have e3 : impl_isHash.f [x.f1] = some true := by rw [isHash_one, decide_eq_true c3]
          by_cases c4 : (i : Int) > 0
          · have hp : wrap64 ((i : Int) - 1) = (i : Int) - 1 := wrap_in (by omega) (by omega)
            by_cases c5 : (rd_T67 l ((i : Int) - 1)).f0 ≤ x.f0
            · refine ⟨false, ev_succ (ev_of_eq fun k => ?_), ev_succ (ev_of_eq fun k => ?_), fun h => Bool.noConfusion h⟩
              · simp only [spec_PeaksOK.l0, hx, e1, hp, Option.bind_some]
                rw [if_pos hi1, if_pos hi0, if_pos trivial, if_pos c2, if_pos c3, if_pos c4, if_pos (by omega), if_pos (by omega), if_pos c5]
              · simp only [impl_PeaksOK.l0, hx, e2, e3, hp, Option.bind_some]
                rw [if_pos hi1, if_pos hi0, if_pos hi1, if_pos trivial, if_pos c2, if_pos c4, if_pos (by omega), if_pos (by omega), if_pos c5]
            · refine ⟨b, ev_succ (ev_congr (fun k => ?_) hs), ev_succ (ev_congr (fun k => ?_) hm), fun hbt j h1 h2 => ?_⟩
              · simp only [spec_PeaksOK.l0, hx, e1, hp, Option.bind_some]
                rw [if_pos hi1, if_pos hi0, if_pos trivial, if_pos c2, if_pos c3, if_pos c4, if_pos (by omega), if_pos (by omega), if_neg c5]
              · simp only [impl_PeaksOK.l0, hx, e2, e3, hp, Option.bind_some]
                rw [if_pos hi1, if_pos hi0, if_pos hi1, if_pos trivial, if_pos c2, if_pos c4, if_pos (by omega), if_pos (by omega), if_neg c5, if_pos trivial]
              · rcases Nat.eq_or_lt_of_le h1 with he | hlt
                · subst he
                  rw [hx]
                  exact ⟨c1.1, c1.2, fun _ => by omega, c3⟩
                · exact hb hbt j (by omega) h2
          · refine ⟨b, ev_succ (ev_congr (fun k => ?_) hs), ev_succ (ev_congr (fun k => ?_) hm), fun hbt j h1 h2 => ?_⟩
            · simp only [spec_PeaksOK.l0, hx, e1, Option.bind_some]
              rw [if_pos hi1, if_pos hi0, if_pos trivial, if_pos c2, if_pos c3, if_neg c4]
            · simp only [impl_PeaksOK.l0, hx, e2, e3, Option.bind_some]
              rw [if_pos hi1, if_pos hi0, if_pos hi1, if_pos trivial, if_pos c2, if_neg c4, if_pos trivial]
            · rcases Nat.eq_or_lt_of_le h1 with he | hlt
              · subst he
                rw [hx]
                exact ⟨c1.1, c1.2, fun h => absurd h (by omega), c3⟩
              · exact hb hbt j (by omega) h2
        · have e3 : impl_isHash.f [x.f1] = some false := by rw [isHash_one, decide_eq_false c3]
          refine ⟨false, ev_succ (ev_of_eq fun k => ?_), ev_succ (ev_of_eq fun k => ?_), fun h => Bool.noConfusion h⟩
          · simp only [spec_PeaksOK.l0, hx, e1, Option.bind_some]
            rw [if_pos hi1, if_pos hi0, if_pos trivial, if_pos c2, if_neg c3]
          · have hp : (i : Int) > 0 → wrap64 ((i : Int) - 1) = (i : Int) - 1 := fun h => wrap_in (by omega) (by omega)
            simp only [impl_PeaksOK.l0, hx, e2, e3, Option.bind_some]
            rw [if_pos hi1, if_pos hi0, if_pos hi1, if_pos trivial, if_pos c2]
            by_cases c4 : (i : Int) > 0
            · rw [if_pos c4, hp c4, if_pos (by omega), if_pos (by omega)]
              split
              · rfl
              · rw [if_neg (by simp)]
            · rw [if_neg c4, if_neg (by simp)]
      · refine ⟨false, ev_succ (ev_of_eq fun k => ?_), ev_succ (ev_of_eq fun k => ?_), fun h => Bool.noConfusion h⟩
        · simp only [spec_PeaksOK.l0, hx, e1, Option.bind_some]
          rw [if_pos hi1, if_pos hi0, if_pos trivial, if_neg c2]
        · simp only [impl_PeaksOK.l0, hx, e2, Option.bind_some]
          rw [if_pos hi1, if_pos hi0, if_pos hi1, if_pos trivial, if_neg c2]
    · have e1 : spec_l01In.f x.f0 1 64 = some false := by unfold spec_l01In.f; split <;> simp <;> omega
      have e2 : impl_within.f x.f0 1 64 = some false := by unfold impl_within.f; split <;> simp <;> omega
      refine ⟨false, ev_succ (ev_of_eq fun k => ?_), ev_succ (ev_of_eq fun k => ?_), fun h => Bool.noConfusion h⟩
      · simp only [spec_PeaksOK.l0, hx, e1, Option.bind_some]
        rw [if_pos hi1, if_pos hi0, if_neg (by simp)]
      · simp only [impl_PeaksOK.l0, hx, e2, Option.bind_some]
        rw [if_pos hi1, if_pos hi0, if_pos hi1, if_neg (by simp)]
theorem peaks_same (l : List S67) (hl : l.length ≤ 1048576) : ∃ b, Ev (fun k => spec_PeaksOK.f k l) b ∧ Ev (fun k => impl_PeaksOK.f k l) b ∧ (b = true → ∀ j : Nat, j < l.length → 1 ≤ (rd_T67 l (j : Int)).f0 ∧ (rd_T67 l (j : Int)).f0 ≤ 64 ∧ (0 < j → (rd_T67 l (j : Int)).f0 < (rd_T67 l ((j : Int) - 1)).f0) ∧ ((rd_T67 l (j : Int)).f1.size : Int) = 32) := by
  obtain ⟨b, hs, hm, hb⟩ := both l hl l.length 0 0 (by omega)
  unfold spec_PeaksOK.f impl_PeaksOK.f
  by_cases hbig : (l.length : Int) > 4096
  · refine ⟨false, ev_if_pos hbig (ev_some _), ?_, fun h => Bool.noConfusion h⟩
    have hf : b = false := by
      rw [Bool.eq_false_iff]
      intro ht
      have hall := hb ht
      have key : ∀ j : Nat, j < l.length → (rd_T67 l (j : Int)).f0 + j ≤ 64 := by
        intro j
        induction j with
        | zero => intro h; have := hall 0 (by omega) h; omega
        | succ j ih =>
          intro h
          have h1 := ih (by omega)
          have h2 := (hall (j + 1) (by omega) h).2.2.1 (by omega)
          rw [show (((j + 1 : Nat) : Int) - 1) = (j : Int) from by omega] at h2
          omega
      have h1 := key 64 (by omega)
      have h2 := (hall 64 (by omega) (by omega)).1
      omega
    subst hf
    exact hm
  · exact ⟨b, ev_if_neg hbig hs, hm, fun h j hj => hb h j (by omega) hj⟩

theorem hash_some (s : ByteArray) (h : s.size ≤ 1099511627776) : impl_hash.f s = some (Go.Proofs.Ytpoaapedcmfcfaa.Hash.sha s) := by
  unfold impl_hash.f
  rw [if_pos h]
theorem lhash_some (l : List Int) (hb : ∀ x ∈ l, 0 ≤ x ∧ x < 256) (h : l.length ≤ 1099511627776) : spec_l01Hash.f l = some (Go.Proofs.Ytpoaapedcmfcfaa.Hash.sha (strOfNums l)) := by
  unfold spec_l01Hash.f
  rw [if_pos h, Go.Proofs.Ytpoaapedcmfcfaa.SHash.shaL_eq l hb]
theorem bytesOf_len (s : ByteArray) : (bytesOf s).length = s.size := bytesOf_length s

/-- What two hashes come to. -/
def nodeOf (a b : ByteArray) : ByteArray := Go.Proofs.Ytpoaapedcmfcfaa.Hash.sha ((⟨#[1]⟩ : ByteArray) ++ a ++ b)
theorem nodeOf_size (a b : ByteArray) : (nodeOf a b).size = 32 := Go.Proofs.Ytpoaapedcmfcfaa.SHash.sha_size _
theorem impl_node (a b : ByteArray) (ha : a.size ≤ 100000000) (hb : b.size ≤ 100000000) : impl_nodeHash.f a b = some (nodeOf a b) := by
  unfold impl_nodeHash.f
  rw [if_pos (by omega), if_pos (by omega), hash_some _ (by rw [ByteArray.size_append, ByteArray.size_append]; show 1 + _ + _ ≤ _; omega)]
  rfl
theorem spec_node (a b : ByteArray) (ha : a.size ≤ 100000000) (hb : b.size ≤ 100000000) : spec_l06Node.f a b = some (nodeOf a b) := by
  unfold spec_l06Node.f
  simp only [Option.bind_some]
  rw [if_pos (by show 1 + _ < _; omega), if_pos (by rw [List.length_append, bytesOf_len]; show 1 + _ + _ < _; omega), lhash_some _ (fun x hx => by
    simp only [List.mem_append, List.mem_cons, List.not_mem_nil, or_false] at hx
    rcases hx with (rfl | h) | h
    · omega
    · exact bytesOf_range a x h
    · exact bytesOf_range b x h) (by rw [List.length_append, List.length_append, bytesOf_len, bytesOf_len]; show 1 + _ + _ ≤ _; omega)]
  rw [strOfNums_append, strOfNums_append, strOfNums_bytesOf, strOfNums_bytesOf]
  rfl

/-- All hashes of a list of peaks are of a bearable size. -/
def BP (l : List S67) : Prop := ∀ x ∈ l, x.f1.size ≤ 100000000
theorem rdP_mem (l : List S67) (i : Nat) (h : i < l.length) : rd_T67 l (i : Int) ∈ l := by
  unfold rd_T67
  rw [Int.toNat_natCast, List.getD_eq_getElem?_getD, List.getElem?_eq_getElem h, Option.getD_some]
  exact List.getElem_mem _
theorem set_take (l : List S67) (n : Nat) (v : S67) (h : n + 2 = l.length) : (l.set n v).take (n + 1) = l.take n ++ [v] := by
  rw [List.take_succ_eq_append_getElem (by rw [List.length_set]; omega), List.getElem_set_self, List.take_set_of_le (by omega)]
/-- Trees of one size become one. -/
theorem add_both (m : Nat) : ∀ (l : List S67), l.length = m → 1 ≤ m → m ≤ 1000000 → BP l →
    ∃ r, Ev (fun k => spec_l06Add.l0 k l (l.length : Int)) r ∧ Ev (fun k => impl_AddPeak.l1 k l ((l.length : Int) - 1)) (r, 0) ∧ BP r ∧ r.length ≤ m := by
  induction m with
  | zero => intro l h1 h2; omega
  | succ n ih =>
    intro l hl _ hm hB
    by_cases hn : n = 0
    · refine ⟨l, ev_succ ?_, ev_succ ?_, hB, by omega⟩
      · simp only [spec_l06Add.l0]
        exact ev_if_neg (by omega) (ev_some _)
      · simp only [impl_AddPeak.l1]
        exact ev_if_neg (by omega) (ev_some _)
    · obtain ⟨q, rfl⟩ : ∃ q, n = q + 1 := ⟨n - 1, by omega⟩
      have w1 : Aside0 (wrap64 ((l.length : Int) - 1) = ((q + 1 : Nat) : Int)) := ⟨(wrap_in (by omega) (by omega)).trans (by omega)⟩
      have w2 : Aside0 (wrap64 ((l.length : Int) - 2) = (q : Int)) := ⟨(wrap_in (by omega) (by omega)).trans (by omega)⟩
      have w3 : Aside0 (wrap64 ((l.length : Int) - 1 - 1) = (q : Int)) := ⟨(wrap_in (by omega) (by omega)).trans (by omega)⟩
      have e1 : (l.length : Int) - 1 = ((q + 1 : Nat) : Int) := by omega
      by_cases hc : (rd_T67 l ((q + 1 : Nat) : Int)).f0 = (rd_T67 l (q : Int)).f0
      · have hz1 := hB _ (rdP_mem l (q + 1) (by omega))
        have hz2 := hB _ (rdP_mem l q (by omega))
        obtain ⟨v, hv⟩ : ∃ v, v = (⟨wrap64 (2 * ((rd_T67 l ((q + 1 : Nat) : Int)).f0)), nodeOf (rd_T67 l (q : Int)).f1 (rd_T67 l ((q + 1 : Nat) : Int)).f1⟩ : S67) := ⟨_, rfl⟩
        have hB' : BP (l.take q ++ [v]) := by
          intro x hx
          rcases List.mem_append.1 hx with h | h
          · exact hB x (List.mem_of_mem_take h)
          · rw [List.mem_singleton.1 h, hv]
            show (nodeOf _ _).size ≤ _
            rw [nodeOf_size]
            omega
        have hlen : (l.take q ++ [v]).length = q + 1 := by rw [List.length_append, List.length_take]; simp only [List.length_cons, List.length_nil]; omega
        obtain ⟨r, h1, h2, h3, h4⟩ := ih (l.take q ++ [v]) hlen (by omega) (by omega) hB'
        have htl : (l.take q).length = q := by rw [List.length_take]; omega
        have hst := set_take l q v (by omega)
        refine ⟨r, ev_succ ?_, ev_succ ?_, h3, by omega⟩
        · simp only [spec_l06Add.l0, w1.out, w2.out, spec_node _ _ hz2 hz1, Option.bind_some, ← hv, Int.toNat_natCast]
          exact ev_if_pos (by omega) (ev_if_pos (by omega) (ev_if_pos (by omega) (ev_if_pos (by omega) (ev_if_pos (by omega) (ev_if_pos hc (ev_if_pos (by omega) (ev_if_pos (by omega) h1)))))))
        · rw [hlen] at h2
          simp only [impl_AddPeak.l1, w3.out]
          rw [e1]
          simp only [impl_node _ _ hz2 hz1, Option.bind_some, ← hv, Int.toNat_natCast, hst]
          exact ev_if_pos (by omega) (ev_if_pos (by omega) (ev_if_pos (by omega) (ev_if_pos (by omega) (ev_if_pos (by omega) (ev_if_pos hc.symm (ev_if_pos (by omega) (by
            have : ((q + 1 : Nat) : Int) - 1 = (q : Int) := by omega
            rw [this] at h2
            exact h2)))))))
      · refine ⟨l, ev_succ ?_, ev_succ ?_, hB, by omega⟩
        · simp only [spec_l06Add.l0, w1.out, w2.out]
          exact ev_if_pos (by omega) (ev_if_pos (by omega) (ev_if_pos (by omega) (ev_if_pos (by omega) (ev_if_pos (by omega) (ev_if_neg hc (ev_some _))))))
        · simp only [impl_AddPeak.l1, w3.out]
          rw [e1]
          exact ev_if_pos (by omega) (ev_if_pos (by omega) (ev_if_pos (by omega) (ev_if_pos (by omega) (ev_if_pos (by omega) (ev_if_neg (fun h => hc h.symm) (ev_some _))))))
/-- The sizes' sum, as both count it. -/
def sumW (l : List S67) (i : Nat) : Int := (List.range i).foldl (fun s j => wrap64 (s + (rd_T67 l ((j : Nat) : Int)).f0)) 0
theorem sumW_succ (l : List S67) (i : Nat) : sumW l (i + 1) = wrap64 (sumW l i + (rd_T67 l (i : Int)).f0) := by simp [sumW, List.range_succ]
theorem isText_one' (a : ByteArray) : impl_isText.f [a] = some (!decide ((a.size : Int) > 65536)) := by
  unfold impl_isText.f impl_isText.p
  simp only [List.any_cons, List.any_nil, Bool.or_false]
theorem spec_sum (l : List S67) (hl : l.length ≤ 1048576) (a : ByteArray) (R : List S67 × Int) (h : Ev (fun k => if sumW l l.length = 64 then (some ((([] : List S67)), (7 : Int))) else ((spec_l06Add.f k l a).bind fun t => (some (t, 0)))) R) (d : Nat) : ∀ i : Nat, i + d = l.length → Ev (fun k => spec_AddPeak.l0 k l a (sumW l i) (i : Int)) R := by
  induction d with
  | zero =>
    intro i hi
    refine ev_succ ?_
    simp only [spec_AddPeak.l0]
    rw [show i = l.length by omega]
    exact ev_if_neg (by omega) h
  | succ d ih =>
    intro i hi
    have := ih (i + 1) (by omega)
    rw [sumW_succ] at this
    have w3 : Aside0 (wrap64 ((i : Int) + 1) = ((i + 1 : Nat) : Int)) := ⟨(wrap_in (by omega) (by omega)).trans (by omega)⟩
    refine ev_succ ?_
    simp only [spec_AddPeak.l0, w3.out]
    exact ev_if_pos (by omega) (ev_if_pos (by omega) this)
theorem impl_sum (l : List S67) (hl : l.length ≤ 1048576) (a : ByteArray) (R : List S67 × Int) (h : Ev (fun k => impl_AddPeak.l0 k l a (sumW l l.length) l (l.length : Int) (l.length : Int)) R) (d : Nat) : ∀ i : Nat, i + d = l.length → Ev (fun k => impl_AddPeak.l0 k l a (sumW l i) l (l.length : Int) (i : Int)) R := by
  induction d with
  | zero =>
    intro i hi
    rw [show i = l.length by omega]
    exact h
  | succ d ih =>
    intro i hi
    have := ih (i + 1) (by omega)
    rw [sumW_succ] at this
    have w3 : Aside0 (wrap64 ((i : Int) + 1) = ((i + 1 : Nat) : Int)) := ⟨(wrap_in (by omega) (by omega)).trans (by omega)⟩
    refine ev_succ ?_
    simp only [impl_AddPeak.l0, w3.out]
    exact ev_if_pos (by omega) (ev_if_pos (by omega) (ev_if_pos (by omega) this))
/-- AddPeak: both come to one answer. -/
theorem AddPeak_both (l : List S67) (hl : l.length ≤ 1048576) (a : ByteArray) (ha : a.size ≤ 1048576) :
    ∃ (r : List S67) (e : Int), Ev (fun k => spec_AddPeak.f k l a) (r, e) ∧ Ev (fun k => impl_AddPeak.f k l a) (r, e) ∧ r.length ≤ 1048576 := by
  obtain ⟨b, hs, hi, hb⟩ := peaks_same l (by omega)
  have himpl : ∀ R, Ev (fun k => impl_AddPeak.l0 k l a (sumW l l.length) l (l.length : Int) (l.length : Int)) R → Ev (fun k => impl_AddPeak.f k l a) R := fun R h => by
    unfold impl_AddPeak.f
    exact impl_sum l (by omega) a R h l.length 0 (by omega)
  unfold spec_AddPeak.f
  by_cases h1 : (a.size : Int) > 65536
  · refine ⟨[], 2, ev_if_pos h1 (ev_some _), himpl _ (ev_succ ?_), by simp⟩
    simp only [impl_AddPeak.l0, isText_one', decide_eq_true h1]
    unfold impl_Peak_64.f
    simp only [Option.bind_some]
    refine ev_if_neg (by omega) ?_
    by_cases h2 : (l.length : Int) ≤ 4096
    · refine ev_if_pos (decide_eq_true h2) (ev_succ ?_)
      simp only [impl_AddPeak.j1]
      exact ev_if_pos (by simp) (ev_some _)
    · refine ev_if_neg (by simp only [decide_eq_true_eq]; exact h2) (ev_succ ?_)
      simp only [impl_AddPeak.j1]
      exact ev_if_pos trivial (ev_some _)
  · by_cases h2 : (l.length : Int) > 4096
    · refine ⟨[], 2, ev_if_neg h1 (ev_if_pos h2 (ev_some _)), himpl _ (ev_succ ?_), by simp⟩
      simp only [impl_AddPeak.l0]
      unfold impl_Peak_64.f
      simp only [Option.bind_some]
      refine ev_if_neg (by omega) (ev_if_neg (by simp only [decide_eq_true_eq]; omega) (ev_succ ?_))
      simp only [impl_AddPeak.j1]
      exact ev_if_pos trivial (ev_some _)
    · have hgo : ∀ R, Ev (fun k => (impl_PeaksOK.f k l).bind fun t192 => (if t192 = true then ((impl_isHash.f (([a] : List ByteArray))).bind fun t196 => (impl_AddPeak.j2 k l a (sumW l l.length) (!t196))) else (impl_AddPeak.j2 k l a (sumW l l.length) true))) R → Ev (fun k => impl_AddPeak.f k l a) R := fun R h => by
        refine himpl R (ev_succ ?_)
        simp only [impl_AddPeak.l0, isText_one', decide_eq_false h1]
        unfold impl_Peak_64.f
        simp only [Option.bind_some]
        refine ev_if_neg (by omega) (ev_if_pos (by simp only [decide_eq_true_eq]; omega) (ev_succ ?_))
        simp only [impl_AddPeak.j1]
        exact ev_if_neg (by simp) h
      cases b with
      | false =>
        refine ⟨[], 1, ev_if_neg h1 (ev_if_neg h2 (ev_bind hs (ev_if_neg (by simp) (ev_succ ?_)))), hgo _ (ev_bind hi (ev_if_neg (by simp) (ev_succ ?_))), by simp⟩
        · simp only [spec_AddPeak.j0]
          exact ev_if_pos trivial (ev_some _)
        · simp only [impl_AddPeak.j2]
          exact ev_if_pos trivial (ev_some _)
      | true =>
        have hall := hb rfl
        by_cases h3 : (a.size : Int) = 32
        · have hne : ((a.size : Int) != 32) = false := by simp [h3]
          by_cases h4 : sumW l l.length = 64
          · refine ⟨[], 7, ev_if_neg h1 (ev_if_neg h2 (ev_bind hs (ev_if_pos rfl (ev_succ ?_)))), hgo _ (ev_bind hi (ev_if_pos rfl ?_)), by simp⟩
            · simp only [spec_AddPeak.j0, hne]
              exact ev_if_neg (by simp) (spec_sum l (by omega) a _ (ev_if_pos h4 (ev_some _)) l.length 0 (by omega))
            · rw [isHash_one, decide_eq_true h3]
              simp only [Option.bind_some]
              refine ev_succ ?_
              simp only [impl_AddPeak.j2]
              exact ev_if_neg (by simp) (ev_if_pos h4 (ev_some _))
          · have hBl : BP (l ++ [(⟨1, a⟩ : S67)]) := by
              intro x hx
              rcases List.mem_append.1 hx with h | h
              · obtain ⟨j, hj, rfl⟩ := List.mem_iff_getElem.1 h
                have := (hall j hj).2.2.2
                unfold rd_T67 at this
                rw [Int.toNat_natCast, List.getD_eq_getElem?_getD, List.getElem?_eq_getElem hj, Option.getD_some] at this
                omega
              · rw [List.mem_singleton.1 h]
                show a.size ≤ _
                omega
            have hll : (l ++ [(⟨1, a⟩ : S67)]).length = l.length + 1 := by rw [List.length_append]; rfl
            obtain ⟨r, r1, r2, r3, r4⟩ := add_both (l.length + 1) (l ++ [(⟨1, a⟩ : S67)]) hll (by omega) (by omega) hBl
            have w : Aside0 (wrap64 (((l ++ [(⟨1, a⟩ : S67)]).length : Int) - 1) = ((l ++ [(⟨1, a⟩ : S67)]).length : Int) - 1) := ⟨by rw [hll]; exact wrap_in (by omega) (by omega)⟩
            refine ⟨r, 0, ev_if_neg h1 (ev_if_neg h2 (ev_bind hs (ev_if_pos rfl (ev_succ ?_)))), hgo _ (ev_bind hi (ev_if_pos rfl ?_)), by omega⟩
            · simp only [spec_AddPeak.j0, hne]
              refine ev_if_neg (by simp) (spec_sum l (by omega) a _ (ev_if_neg h4 (ev_bind ?_ (ev_some _))) l.length 0 (by omega))
              unfold spec_l06Add.f
              simp only [Option.bind_some, List.nil_append]
              exact ev_if_pos (by simp; omega) (ev_if_pos (by omega) r1)
            · rw [isHash_one, decide_eq_true h3]
              simp only [Option.bind_some]
              refine ev_succ ?_
              simp only [impl_AddPeak.j2]
              unfold impl_Peak_80.f
              rw [if_pos (show l.length ≤ 1000000 by omega)]
              simp only [Option.bind_some, w.out]
              exact ev_if_neg (by simp) (ev_if_neg h4 (ev_if_pos (by omega) r2))
        · have hne : ((a.size : Int) != 32) = true := by simp [h3]
          refine ⟨[], 1, ev_if_neg h1 (ev_if_neg h2 (ev_bind hs (ev_if_pos rfl (ev_succ ?_)))), hgo _ (ev_bind hi (ev_if_pos rfl ?_)), by simp⟩
          · simp only [spec_AddPeak.j0, hne]
            exact ev_if_pos trivial (ev_some _)
          · rw [isHash_one, decide_eq_false h3]
            simp only [Option.bind_some]
            refine ev_succ ?_
            simp only [impl_AddPeak.j2]
            exact ev_if_pos (by simp) (ev_some _)

/-- Each number has a mark. -/
theorem markText_from (n : Nat) : ∀ (x : Int) (acc : ByteArray), x.toNat ≤ n → acc.size + n ≤ 4000000000 → ∃ t : ByteArray, Ev (fun k => laws_markText.l0 k x acc) t := by
  induction n with
  | zero =>
    intro x acc hx ha
    refine ⟨(⟨#[109]⟩ : ByteArray) ++ acc, ev_succ ?_⟩
    simp only [laws_markText.l0]
    exact ev_if_neg (by omega) (ev_if_pos (by omega) (ev_some _))
  | succ n ih =>
    intro x acc hx ha
    by_cases hp : x > 0
    · have hw : Aside0 (wrap64 (Int.tdiv x 10) = x / 10 ∨ ¬ x ≤ 9223372036854775807) := ⟨by
        rw [Int.tdiv_eq_ediv_of_nonneg (by omega)]
        by_cases h : x ≤ 9223372036854775807
        · exact .inl (wrap_in (by omega) (by omega))
        · exact .inr h⟩
      rcases hw.out with hq | hq
      · have hsz : (strOfNums [(wrap64 (48 + (Int.tmod x 10))) % 256]).size = 1 := size_strOfNums _
        obtain ⟨t, ht⟩ := ih (x / 10) (strOfNums [(wrap64 (48 + (Int.tmod x 10))) % 256] ++ acc) (by omega) (by rw [ByteArray.size_append, hsz]; omega)
        refine ⟨t, ev_succ ?_⟩
        simp only [laws_markText.l0, Option.bind_some, hq]
        exact ev_if_pos hp (ev_if_pos (by omega) ht)
      · exfalso; omega
    · refine ⟨(⟨#[109]⟩ : ByteArray) ++ acc, ev_succ ?_⟩
      simp only [laws_markText.l0]
      exact ev_if_neg hp (ev_if_pos (by omega) (ev_some _))
theorem markText_ex (x : Int) (hx : x ≤ 1000000000) : ∃ t : ByteArray, Ev (fun k => laws_markText.f k x) t := by
  unfold laws_markText.f
  by_cases h : x ≤ 0
  · exact ⟨_, ev_if_pos h (ev_some _)⟩
  · obtain ⟨t, ht⟩ := markText_from x.toNat x ⟨#[]⟩ (by omega) (by show 0 + _ ≤ _; omega)
    exact ⟨t, ev_if_neg h ht⟩
open Classical in
noncomputable def markT (x : Int) : ByteArray := if h : ∃ t : ByteArray, Ev (fun k => laws_markText.f k x) t then h.choose else ⟨#[]⟩
theorem markText_ev (x : Int) (hx : x ≤ 1000000000) : Ev (fun k => laws_markText.f k x) (markT x) := by
  unfold markT
  rw [dif_pos (markText_ex x hx)]
  exact (markText_ex x hx).choose_spec

/-- What the marks of peaks are. -/
noncomputable def marksP (n : Nat) : List S67 := (List.range n).map fun i => (⟨2 * ((i : Nat) : Int) + 1, markT (2 * ((i : Nat) : Int) + 2)⟩ : S67)
theorem marksP_length (n : Nat) : (marksP n).length = n := by simp [marksP]
theorem marksP_rd (n i : Nat) (h : i < n) : rd_T67 (marksP n) (i : Int) = (⟨2 * (i : Int) + 1, markT (2 * (i : Int) + 2)⟩ : S67) := by
  unfold rd_T67 marksP
  rw [Int.toNat_natCast, List.getD_eq_getElem?_getD, List.getElem?_map, List.getElem?_range h]
  rfl
theorem rdP_get (x : List S67) (i : Nat) (h : i < x.length) (v : S67) : rd_T67 (x.set i v) (i : Int) = v := by
  unfold rd_T67
  rw [Int.toNat_natCast, List.getD_eq_getElem?_getD, List.getElem?_set_self h, Option.getD_some]
theorem markPeakS_from (n d : Nat) (hn : n ≤ 10000000) : ∀ (i : Nat) (x : List S67), i + d = n → x.length = n → (∀ j, j < i → x[j]? = (marksP n)[j]?) → Ev (fun k => laws_markPeakS.l0 k x (2 * (i : Int) + 1) (i : Int)) (2 * (n : Int) + 1, marksP n) := by
  have hml := marksP_length n
  induction d with
  | zero =>
    intro i x hi hx h
    refine ev_succ ?_
    simp only [laws_markPeakS.l0]
    rw [show x = marksP n from copy_end (marksP n) x (by rw [hml]; exact hx) (fun j hj => h j (by rw [hml] at hj; omega)), show (i : Int) = (n : Int) from by omega]
    exact ev_if_neg (by rw [hml]; omega) (ev_some _)
  | succ d ih =>
    intro i x hi hx h
    have hrd := marksP_rd n i (by omega)
    have hget : (marksP n).getD i (⟨0, ⟨#[]⟩⟩ : S67) = (⟨2 * (i : Int) + 1, markT (2 * (i : Int) + 2)⟩ : S67) := by
      unfold marksP
      rw [List.getD_eq_getElem?_getD, List.getElem?_map, List.getElem?_range (by omega)]
      rfl
    obtain ⟨hs1, hs2⟩ := copy_step (marksP n) x i (⟨0, ⟨#[]⟩⟩ : S67) (by rw [hml]; exact hx) (by rw [hml]; omega) h
    rw [hget] at hs1 hs2
    rw [hml] at hs1
    have := ih (i + 1) _ (by omega) hs1 hs2
    have w1 : Aside0 (wrap64 (2 * (i : Int) + 1 + 1) = 2 * (i : Int) + 2) := ⟨(wrap_in (by omega) (by omega)).trans (by omega)⟩
    have w2 : Aside0 (wrap64 (2 * (i : Int) + 2 + 1) = 2 * ((i + 1 : Nat) : Int) + 1) := ⟨(wrap_in (by omega) (by omega)).trans (by omega)⟩
    have w3 : Aside0 (wrap64 ((i : Int) + 1) = ((i + 1 : Nat) : Int)) := ⟨(wrap_in (by omega) (by omega)).trans (by omega)⟩
    refine ev_succ ?_
    simp only [laws_markPeakS.l0, w1.out, w2.out, w3.out, Int.toNat_natCast, Option.bind_some, rdP_get x i (by omega), List.set_set]
    exact ev_if_pos (by omega) (ev_if_pos (by omega) (ev_bind (markText_ev _ (by omega)) this))
theorem markPeakS_ev (l : List S67) (hl : l.length ≤ 10000000) : Ev (fun k => laws_markPeakS.f k l 1) (2 * (l.length : Int) + 1, marksP l.length) := by
  unfold laws_markPeakS.f
  exact markPeakS_from l.length l.length hl 0 l (by omega) rfl (fun j hj => absurd hj (by omega))
theorem heldPeakS_from (n d : Nat) (hn : n ≤ 10000000) : ∀ i : Nat, i + d = n → Ev (fun k => laws_heldPeakS.l0 k (marksP n) (2 * (i : Int) + 1) (i : Int)) (2 * (n : Int) + 1) := by
  have hml := marksP_length n
  induction d with
  | zero =>
    intro i hi
    refine ev_succ ?_
    simp only [laws_heldPeakS.l0]
    rw [show (i : Int) = (n : Int) from by omega]
    exact ev_if_neg (by rw [hml]; omega) (ev_some _)
  | succ d ih =>
    intro i hi
    have := ih (i + 1) (by omega)
    have hrd := marksP_rd n i (by omega)
    have w1 : Aside0 (wrap64 (2 * (i : Int) + 1 + 1) = 2 * (i : Int) + 2) := ⟨(wrap_in (by omega) (by omega)).trans (by omega)⟩
    have w2 : Aside0 (wrap64 (2 * (i : Int) + 2 + 1) = 2 * ((i + 1 : Nat) : Int) + 1) := ⟨(wrap_in (by omega) (by omega)).trans (by omega)⟩
    have w3 : Aside0 (wrap64 ((i : Int) + 1) = ((i + 1 : Nat) : Int)) := ⟨(wrap_in (by omega) (by omega)).trans (by omega)⟩
    refine ev_succ ?_
    simp only [laws_heldPeakS.l0, w1.out, w2.out, w3.out, hrd]
    exact ev_if_pos (by rw [hml]; omega) (ev_if_pos (by omega) (ev_if_pos (by first | rfl | trivial) (ev_bind (markText_ev _ (by omega)) (ev_if_pos (by first | rfl | trivial) this))))
theorem heldPeakS_ev (n : Nat) (hn : n ≤ 10000000) : Ev (fun k => laws_heldPeakS.f k (marksP n) 1) (2 * (n : Int) + 1) := by
  unfold laws_heldPeakS.f
  exact heldPeakS_from n n hn 0 (by omega)

theorem FnExactAddPeak : laws_FnExactAddPeak.Pure := by
  intro l a hg _
  refine Ev.rounds (r := true) ?_
  unfold laws_FnExactAddPeak.f
  by_cases ha : (a.size : Int) > 1048576
  · exact ev_if_pos ha (ev_some _)
  refine ev_if_neg ha ?_
  obtain ⟨s, hs, hlen⟩ := szPeakS_ev l hg 1048576 (by omega) (by omega)
  refine ev_bind hs ?_
  by_cases hneg : s < 0
  · exact ev_if_pos hneg (ev_some _)
  · obtain ⟨_, hl, _⟩ := hlen.resolve_left (by omega)
    have ht := toPeakS_ev l (by omega)
    have hml : (l.map convPeak).length = l.length := List.length_map _
    obtain ⟨r, e, h1, h2, h3⟩ := AddPeak_both (l.map convPeak) (by omega) a (by omega)
    have he := eqPeakS_ev (l.map convPeak) (by omega)
    have hq := eqPeakS_ev r (by omega)
    have hm := markPeakS_ev (l.map convPeak) (by omega)
    have hk := markPeakS_ev r (by omega)
    have hh := heldPeakS_ev r.length (by omega)
    refine ev_if_neg hneg (ev_bind ht (ev_bind h1 (ev_bind ht (ev_bind h2 (ev_bind hq (ev_if_pos (by first | rfl | trivial) (ev_succ ?_)))))))
    simp only [laws_FnExactAddPeak.j0]
    refine ev_if_neg (by simp) (ev_bind ht (ev_bind he (ev_if_pos (by first | rfl | trivial) (ev_bind hm (ev_if_neg (by simp only; omega) (ev_bind hq (ev_if_pos (by first | rfl | trivial) (ev_succ ?_))))))))
    simp only [laws_FnExactAddPeak.j1]
    refine ev_if_neg (by simp) (ev_bind hk (ev_bind hh (ev_if_neg (by omega) (ev_if_pos (by first | rfl | trivial) (ev_bind ht (ev_bind h2 (ev_bind hq (ev_if_pos (by first | rfl | trivial) (ev_succ ?_)))))))))
    simp only [laws_FnExactAddPeak.j2]
    exact ev_if_neg (by simp) (ev_bind hh (ev_if_neg (by omega) (ev_if_pos (by first | rfl | trivial) (ev_some _))))
end Go.Proofs.Ytpoaapedcmfcfaa.Pure
