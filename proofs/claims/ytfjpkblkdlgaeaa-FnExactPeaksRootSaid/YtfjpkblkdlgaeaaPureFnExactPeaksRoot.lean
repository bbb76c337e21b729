/- PeaksRoot answers as the reference's at every list of peaks: the plain form. No conditions. -/
import Derived.Test.YtfjpkblkdlgaeaaQFnExactPeaksRoot
import Derived.Test.YtfjpkblkdlgaeaaU
import Derived.Test.YtfjpkblkdlgaeaaMk
namespace Go.Proofs.Ytfjpkblkdlgaeaa.Pure
open Go.RowKit Go.Proofs.Ytfjpkblkdlgaeaa.PFnExactPeaksRoot Go.Proofs.YtfjpkblkdlgaeaaW.PrintWords Go.Proofs.YtfjpkblkdlgaeaaW.PrintLast Go.Proofs.YtfjpkblkdlgaeaaW.PrintMore Go.Proofs.Ytfjpkblkdlgaeaa.U
set_option linter.unusedVariables false
set_option linter.unusedSimpArgs false
def convPeak (x : S62) : S65 := ⟨x.f0, x.f1⟩
theorem toPeakS_ev (l : List S62) (hl : l.length ≤ 1048576) : Ev (fun k => laws_toPeakS.f k l) (l.map convPeak) := by
  have hml : (l.map convPeak).length = l.length := List.length_map _
  have key := ev_loop (fun k (s : List S65 × Int) => laws_toPeakS.l0 k l s.1 s.2) (fun s => 0 ≤ s.2 ∧ s.2 ≤ l.length ∧ s.1.length = l.length ∧ ∀ j : Nat, j < s.2.toNat → s.1[j]? = (l.map convPeak)[j]?) (fun s => l.length - s.2.toNat) (fun _ => l.map convPeak) (by
    rintro ⟨x, i⟩ ⟨h0, h1, h2, h3⟩
    simp only at h0 h1 h2 h3
    by_cases hi : i < (l.length : Int)
    · right
      obtain ⟨hs1, hs2⟩ := copy_step (l.map convPeak) x i.toNat (convPeak z62) (by rw [hml]; exact h2) (by rw [hml]; omega) h3
      have hg : (l.map convPeak).getD i.toNat (convPeak z62) = convPeak (rd_T62 l i) := by
        unfold rd_T62
        rw [List.getD_eq_getElem?_getD, List.getD_eq_getElem?_getD, List.getElem?_map]
        cases l[i.toNat]? <;> rfl
      rw [hg] at hs1 hs2
      rw [hml] at hs1
      refine ⟨(x.set i.toNat (convPeak (rd_T62 l i)), i + 1), ⟨by simp only; omega, by simp only; omega, hs1, fun j hj => hs2 j (by simp only at hj; omega)⟩, by simp only; omega, rfl, 0, fun j _ => ?_⟩
      show laws_toPeakS.l0 (j + 1) l x i = _
      simp only [laws_toPeakS.l0, laws_toPeak.f, Option.bind_some]
      rw [if_pos (by omega), if_pos h0, if_pos (by omega), wrap_in (x := i + 1) (by omega) (by omega)]
      rfl
    · left
      refine ⟨0, fun j _ => ?_⟩
      show laws_toPeakS.l0 (j + 1) l x i = _
      simp only [laws_toPeakS.l0]
      rw [if_neg (by omega), copy_end (l.map convPeak) x (by rw [hml]; exact h2) (fun j hj => h3 j (by rw [hml] at hj; omega))])
  have := key (List.replicate l.length z65, 0) ⟨by simp, by simp, by simp, fun j hj => absurd hj (by simp)⟩
  refine ev_congr (fun k => ?_) this
  unfold laws_toPeakS.f
  rw [if_pos (by omega), if_pos (by omega), Int.toNat_natCast]

theorem eqPeak_same (a0) (a1) : laws_eqPeak.f a0 a1 a0 a1 = some true := by
  unfold laws_eqPeak.f
  repeat' split
  all_goals first | rfl | (exfalso; simp_all)
theorem eqPeakS_ev (l : List S65) (hl : l.length ≤ 1048576) : Ev (fun k => laws_eqPeakS.f k l l) true := by
  have key := ev_loop (fun k (i : Int) => laws_eqPeakS.l0 k l l i) (fun i => 0 ≤ i ∧ i ≤ l.length) (fun i => l.length - i.toNat) (fun _ => true) (by
    rintro i ⟨h0, h1⟩
    by_cases hi : i < (l.length : Int)
    · right
      refine ⟨i + 1, ⟨by omega, by omega⟩, by omega, rfl, 0, fun j _ => ?_⟩
      simp only [laws_eqPeakS.l0, eqPeak_same, Option.bind_some]
      rw [if_pos hi, if_pos h0, if_pos hi, if_pos trivial, wrap_in (by omega) (by omega)]
    · left
      refine ⟨0, fun j _ => ?_⟩
      simp only [laws_eqPeakS.l0]
      rw [if_neg hi])
  refine ev_congr (fun k => ?_) (key 0 ⟨by omega, by omega⟩)
  unfold laws_eqPeakS.f
  rw [if_pos rfl]

/-- The texts of one are no longer than what is left. -/
def BPeak (x : S62) (n : Int) : Prop := (x.f1.size : Int) ≤ n
theorem szPeak_some (x : S62) (hg : g62 x) (n : Int) (h0 : 0 ≤ n) (h1 : n ≤ 1048576) : ∃ s, laws_szPeak.f x.f0 x.f1 n = some s ∧ s ≤ n ∧ (0 ≤ s ∨ s = -1) ∧ (0 ≤ s → BPeak x n) := by
  unfold laws_szPeak.f BPeak
  have hb1 : x.f1.size ≤ maxLen := hg.2
  unfold maxLen at *
  have hw0 : wrap64 (n - (x.f1.size : Int)) = n - (x.f1.size : Int) := wrap_in (by omega) (by omega)
  by_cases c0 : n - (x.f1.size : Int) < 0
  · refine ⟨-1, ?_, by omega, .inr rfl, fun h => absurd h (by omega)⟩
    simp only [hw0]
    rw [if_pos c0]
  · skip
    refine ⟨n - (x.f1.size : Int), ?_, by omega, .inl (by omega), fun _ => by omega⟩
    simp only [hw0]
    rw [if_neg c0]

theorem szPeakS_ev (l : List S62) (hg : Open.GL g62 l) (n : Int) (h0 : 0 ≤ n) (h1 : n ≤ 1048576) : ∃ s, Ev (fun k => laws_szPeakS.f k l n) s ∧ (s = -1 ∨ 0 ≤ s ∧ (l.length : Int) ≤ n ∧ s ≤ n ∧ ∀ x ∈ l, BPeak x n) := by
  have hm := hg.1
  unfold maxLen at hm
  have hw : wrap64 (n - (l.length : Int)) = n - (l.length : Int) := wrap_in (by omega) (by omega)
  by_cases hneg : n - (l.length : Int) < 0
  · exact ⟨-1, ev_of_eq fun k => by unfold laws_szPeakS.f; rw [hw, if_pos hneg], .inl rfl⟩
  · have key : ∀ (d i : Nat) (v : Int), i + d = l.length → 0 ≤ v → v ≤ n → ∃ s, Ev (fun k => laws_szPeakS.l0 k l v (i : Int)) s ∧ (s = -1 ∨ 0 ≤ s ∧ s ≤ n ∧ ∀ x ∈ l.drop i, BPeak x n) := by
      intro d
      induction d with
      | zero =>
        intro i v hi hv0 hv1
        exact ⟨v, ev_succ (ev_of_eq fun k => by simp only [laws_szPeakS.l0]; rw [if_neg (by omega)]), .inr ⟨hv0, hv1, fun x hx => by rw [List.drop_eq_nil_of_le (by omega)] at hx; simp at hx⟩⟩
      | succ d ih =>
        intro i v hi hv0 hv1
        have hmem : rd_T62 l (i : Int) ∈ l := by
          unfold rd_T62
          rw [Int.toNat_natCast, List.getD_eq_getElem?_getD, List.getElem?_eq_getElem (by omega), Option.getD_some]
          exact List.getElem_mem _
        obtain ⟨s, hs, hle, hor, hB⟩ := szPeak_some (rd_T62 l (i : Int)) (hg.2 _ hmem) v hv0 (by omega)
        by_cases hs0 : s < 0
        · refine ⟨-1, ev_succ (ev_of_eq fun k => ?_), .inl rfl⟩
          simp only [laws_szPeakS.l0, hs, Option.bind_some]
          rw [if_pos (by omega), if_pos (by omega), if_pos hs0]
        · obtain ⟨r, hr, hrn⟩ := ih (i + 1) s (by omega) (by omega) (by omega)
          refine ⟨r, ev_succ (ev_congr (fun k => ?_) hr), ?_⟩
          · simp only [laws_szPeakS.l0, hs, Option.bind_some]
            rw [if_pos (by omega), if_pos (by omega), if_neg hs0, wrap_in (x := (i : Int) + 1) (by omega) (by omega)]
            rfl
          · rcases hrn with h | ⟨ha, hb, hall⟩
            · exact .inl h
            · refine .inr ⟨ha, hb, fun x hx => ?_⟩
              rw [List.drop_eq_getElem_cons (by omega)] at hx
              rcases List.mem_cons.1 hx with rfl | hx
              · have hq := hB (by omega)
                unfold rd_T62 at hq
                rw [Int.toNat_natCast, List.getD_eq_getElem?_getD, List.getElem?_eq_getElem (by omega), Option.getD_some] at hq
                unfold BPeak at hq ⊢
                omega
              · exact hall x hx
    obtain ⟨s, hs, hsn⟩ := key l.length 0 (n - (l.length : Int)) (by omega) (by omega) (by omega)
    refine ⟨s, ev_congr (fun k => ?_) hs, ?_⟩
    · unfold laws_szPeakS.f
      rw [hw, if_neg hneg]
      rfl
    · rcases hsn with h | ⟨ha, hb, hall⟩
      · exact .inl h
      · exact .inr ⟨ha, by omega, hb, fun x hx => hall x (by simpa using hx)⟩

theorem isHash_one (h : ByteArray) : impl_isHash.f [h] = some (decide ((h.size : Int) = 32)) := by
  unfold impl_isHash.f impl_isHash.p
  simp only [List.any_cons, List.any_nil, Bool.or_false, Option.some.injEq]
  rw [Bool.eq_iff_iff]
  simp
/-- A peak that is right, by itself. -/
def pk (x : S65) : Bool := decide (1 ≤ x.f0 ∧ x.f0 ≤ 64) && decide (Go.bits .and .i64 x.f0 (wrap64 (x.f0 - 1)) = 0) && decide ((x.f1.size : Int) = 32)
/-- From place i on both come to one answer; where it is false a peak is not right, or does not fall. -/
theorem both (l : List S65) (hl : l.length ≤ 1048576) (d : Nat) : ∀ (i : Nat) (s : Int), i + d = l.length →
    ∃ b, Ev (fun k => spec_PeaksOK.l0 k l s (i : Int)) b ∧ Ev (fun k => impl_PeaksOK.l0 k l s l (l.length : Int) (i : Int)) b ∧
      (b = true → ∀ j : Nat, i ≤ j → j < l.length → 1 ≤ (rd_T65 l (j : Int)).f0 ∧ (rd_T65 l (j : Int)).f0 ≤ 64 ∧ (0 < j → (rd_T65 l (j : Int)).f0 < (rd_T65 l ((j : Int) - 1)).f0) ∧ ((rd_T65 l (j : Int)).f1.size : Int) = 32) := by
  induction d with
  | zero =>
    intro i s hi
    refine ⟨decide (s ≤ 64), ev_succ (ev_of_eq fun k => ?_), ev_succ (ev_of_eq fun k => ?_), fun _ j h1 h2 => by omega⟩
    · simp only [spec_PeaksOK.l0]; rw [if_neg (by omega)]
    · simp only [impl_PeaksOK.l0]; rw [if_neg (by omega)]
  | succ d ih =>
    intro i s hi
    have hi1 : (i : Int) < (l.length : Int) := by omega
    have hi0 : 0 ≤ (i : Int) := by omega
    have hw : wrap64 ((i : Int) + 1) = ((i + 1 : Nat) : Int) := by rw [wrap_in (by omega) (by omega)]; omega
    obtain ⟨b, hs, hm, hb⟩ := ih (i + 1) (wrap64 (s + (rd_T65 l (i : Int)).f0)) (by omega)
    rw [← hw] at hs hm
    generalize hx : rd_T65 l (i : Int) = x at *
    by_cases c1 : 1 ≤ x.f0 ∧ x.f0 ≤ 64
    · have e1 : spec_l01In.f x.f0 1 64 = some true := by unfold spec_l01In.f; rw [if_pos (by omega)]; simp [c1.2]
      have e2 : impl_within.f x.f0 1 64 = some true := by unfold impl_within.f; rw [if_pos (by omega)]; simp [c1.2]
      by_cases c2 : Go.bits .and .i64 x.f0 (wrap64 (x.f0 - 1)) = 0
      · by_cases c3 : (x.f1.size : Int) = 32
        · have e3 : impl_isHash.f [x.f1] = some true := by rw [isHash_one, decide_eq_true c3]
          by_cases c4 : (i : Int) > 0
          · have hp : wrap64 ((i : Int) - 1) = (i : Int) - 1 := wrap_in (by omega) (by omega)
            by_cases c5 : (rd_T65 l ((i : Int) - 1)).f0 ≤ x.f0
            · refine ⟨false, ev_succ (ev_of_eq fun k => ?_), ev_succ (ev_of_eq fun k => ?_), fun h => Bool.noConfusion h⟩
              · simp only [spec_PeaksOK.l0, hx, e1, hp, Option.bind_some]
                rw [if_pos hi1, if_pos hi0, if_pos trivial, if_pos c2, if_pos c3, if_pos c4, if_pos (by omega), if_pos (by omega), if_pos c5]
              · simp only [impl_PeaksOK.l0, hx, e2, e3, hp, Option.bind_some]
                rw [if_pos hi1, if_pos hi0, if_pos hi1, if_pos trivial, if_pos c2, if_pos c4, if_pos (by omega), if_pos (by omega), if_pos c5]
            · refine ⟨b, ev_succ (ev_congr (fun k => ?_) hs), ev_succ (ev_congr (fun k => ?_) hm), fun hbt j h1 h2 => ?_⟩
              · simp only [spec_PeaksOK.l0, hx, e1, hp, Option.bind_some]
                rw [if_pos hi1, if_pos hi0, if_pos trivial, if_pos c2, if_pos c3, if_pos c4, if_pos (by omega), if_pos (by omega), if_neg c5]
              · simp only [impl_PeaksOK.l0, hx, e2, e3, hp, Option.bind_some]
                rw [if_pos hi1, if_pos hi0, if_pos hi1, if_pos trivial, if_pos c2, if_pos c4, if_pos (by omega), if_pos (by omega), if_neg c5, if_pos trivial]
              · rcases Nat.eq_or_lt_of_le h1 with he | hlt
                · subst he
                  rw [hx]
                  exact ⟨c1.1, c1.2, fun _ => by omega, c3⟩
                · exact hb hbt j (by omega) h2
          · refine ⟨b, ev_succ (ev_congr (fun k => ?_) hs), ev_succ (ev_congr (fun k => ?_) hm), fun hbt j h1 h2 => ?_⟩
            · simp only [spec_PeaksOK.l0, hx, e1, Option.bind_some]
              rw [if_pos hi1, if_pos hi0, if_pos trivial, if_pos c2, if_pos c3, if_neg c4]
            · simp only [impl_PeaksOK.l0, hx, e2, e3, Option.bind_some]
              rw [if_pos hi1, if_pos hi0, if_pos hi1, if_pos trivial, if_pos c2, if_neg c4, if_pos trivial]
            · rcases Nat.eq_or_lt_of_le h1 with he | hlt
              · subst he
                rw [hx]
                exact ⟨c1.1, c1.2, fun h => absurd h (by omega), c3⟩
              · exact hb hbt j (by omega) h2
        · have e3 : impl_isHash.f [x.f1] = some false := by rw [isHash_one, decide_eq_false c3]
          refine ⟨false, ev_succ (ev_of_eq fun k => ?_), ev_succ (ev_of_eq fun k => ?_), fun h => Bool.noConfusion h⟩
          · simp only [spec_PeaksOK.l0, hx, e1, Option.bind_some]
            rw [if_pos hi1, if_pos hi0, if_pos trivial, if_pos c2, if_neg c3]
          · have hp : (i : Int) > 0 → wrap64 ((i : Int) - 1) = (i : Int) - 1 := fun h => wrap_in (by omega) (by omega)
            simp only [impl_PeaksOK.l0, hx, e2, e3, Option.bind_some]
            rw [if_pos hi1, if_pos hi0, if_pos hi1, if_pos trivial, if_pos c2]
            by_cases c4 : (i : Int) > 0
            · rw [if_pos c4, hp c4, if_pos (by omega), if_pos (by omega)]
              split
              · rfl
              · rw [if_neg (by simp)]
            · rw [if_neg c4, if_neg (by simp)]
      · refine ⟨false, ev_succ (ev_of_eq fun k => ?_), ev_succ (ev_of_eq fun k => ?_), fun h => Bool.noConfusion h⟩
        · simp only [spec_PeaksOK.l0, hx, e1, Option.bind_some]
          rw [if_pos hi1, if_pos hi0, if_pos trivial, if_neg c2]
        · simp only [impl_PeaksOK.l0, hx, e2, Option.bind_some]
          rw [if_pos hi1, if_pos hi0, if_pos hi1, if_pos trivial, if_neg c2]
    · have e1 : spec_l01In.f x.f0 1 64 = some false := by unfold spec_l01In.f; split <;> simp <;> omega
      have e2 : impl_within.f x.f0 1 64 = some false := by unfold impl_within.f; split <;> simp <;> omega
      refine ⟨false, ev_succ (ev_of_eq fun k => ?_), ev_succ (ev_of_eq fun k => ?_), fun h => Bool.noConfusion h⟩
      · simp only [spec_PeaksOK.l0, hx, e1, Option.bind_some]
        rw [if_pos hi1, if_pos hi0, if_neg (by simp)]
      · simp only [impl_PeaksOK.l0, hx, e2, Option.bind_some]
        rw [if_pos hi1, if_pos hi0, if_pos hi1, if_neg (by simp)]
theorem peaks_same (l : List S65) (hl : l.length ≤ 1048576) : ∃ b, Ev (fun k => spec_PeaksOK.f k l) b ∧ Ev (fun k => impl_PeaksOK.f k l) b ∧ (b = true → ∀ j : Nat, j < l.length → 1 ≤ (rd_T65 l (j : Int)).f0 ∧ (rd_T65 l (j : Int)).f0 ≤ 64 ∧ (0 < j → (rd_T65 l (j : Int)).f0 < (rd_T65 l ((j : Int) - 1)).f0) ∧ ((rd_T65 l (j : Int)).f1.size : Int) = 32) := by
  obtain ⟨b, hs, hm, hb⟩ := both l hl l.length 0 0 (by omega)
  unfold spec_PeaksOK.f impl_PeaksOK.f
  by_cases hbig : (l.length : Int) > 4096
  · refine ⟨false, ev_if_pos hbig (ev_some _), ?_, fun h => Bool.noConfusion h⟩
    have hf : b = false := by
      rw [Bool.eq_false_iff]
      intro ht
      have hall := hb ht
      have key : ∀ j : Nat, j < l.length → (rd_T65 l (j : Int)).f0 + j ≤ 64 := by
        intro j
        induction j with
        | zero => intro h; have := hall 0 (by omega) h; omega
        | succ j ih =>
          intro h
          have h1 := ih (by omega)
          have h2 := (hall (j + 1) (by omega) h).2.2.1 (by omega)
          rw [show (((j + 1 : Nat) : Int) - 1) = (j : Int) from by omega] at h2
          omega
      have h1 := key 64 (by omega)
      have h2 := (hall 64 (by omega) (by omega)).1
      omega
    subst hf
    exact hm
  · exact ⟨b, ev_if_neg hbig hs, hm, fun h j hj => hb h j (by omega) hj⟩

theorem hash_some (s : ByteArray) (h : s.size ≤ 1099511627776) : impl_hash.f s = some (Go.Proofs.Ytfjpkblkdlgaeaa.Hash.sha s) := by
  unfold impl_hash.f
  rw [if_pos h]
theorem lhash_some (l : List Int) (hb : ∀ x ∈ l, 0 ≤ x ∧ x < 256) (h : l.length ≤ 1099511627776) : spec_l01Hash.f l = some (Go.Proofs.Ytfjpkblkdlgaeaa.Hash.sha (strOfNums l)) := by
  unfold spec_l01Hash.f
  rw [if_pos h, Go.Proofs.Ytfjpkblkdlgaeaa.SHash.shaL_eq l hb]
theorem bytesOf_len (s : ByteArray) : (bytesOf s).length = s.size := bytesOf_length s

/-- What two hashes come to. -/
def nodeOf (a b : ByteArray) : ByteArray := Go.Proofs.Ytfjpkblkdlgaeaa.Hash.sha ((⟨#[1]⟩ : ByteArray) ++ a ++ b)
theorem nodeOf_size (a b : ByteArray) : (nodeOf a b).size = 32 := Go.Proofs.Ytfjpkblkdlgaeaa.SHash.sha_size _
theorem impl_node (a b : ByteArray) (ha : a.size ≤ 100000000) (hb : b.size ≤ 100000000) : impl_nodeHash.f a b = some (nodeOf a b) := by
  unfold impl_nodeHash.f
  rw [if_pos (by omega), if_pos (by omega), hash_some _ (by rw [ByteArray.size_append, ByteArray.size_append]; show 1 + _ + _ ≤ _; omega)]
  rfl
theorem spec_node (a b : ByteArray) (ha : a.size ≤ 100000000) (hb : b.size ≤ 100000000) : spec_l06Node.f a b = some (nodeOf a b) := by
  unfold spec_l06Node.f
  simp only [Option.bind_some]
  rw [if_pos (by show 1 + _ < _; omega), if_pos (by rw [List.length_append, bytesOf_len]; show 1 + _ + _ < _; omega), lhash_some _ (fun x hx => by
    simp only [List.mem_append, List.mem_cons, List.not_mem_nil, or_false] at hx
    rcases hx with (rfl | h) | h
    · omega
    · exact bytesOf_range a x h
    · exact bytesOf_range b x h) (by rw [List.length_append, List.length_append, bytesOf_len, bytesOf_len]; show 1 + _ + _ ≤ _; omega)]
  rw [strOfNums_append, strOfNums_append, strOfNums_bytesOf, strOfNums_bytesOf]
  rfl

theorem rdR_at (l : List S65) (i : Nat) (h : i < l.length) : rd_T65 l (i : Int) = l[i] := by
  unfold rd_T65
  rw [Int.toNat_natCast, List.getD_eq_getElem?_getD, List.getElem?_eq_getElem h, Option.getD_some]
theorem nodeOf_mk (a b : ByteArray) : Go.Proofs.Ytfjpkblkdlgaeaa.Mk.nodeOf a b = nodeOf a b := rfl
/-- The reference goes from a place down to the first. -/
theorem spec_root_from (l : List S65) (hl : l.length ≤ 1048576) (hB : ∀ x ∈ l, x.f1.size ≤ 100000000) (i : Nat) : ∀ h : ByteArray, i ≤ l.length → h.size ≤ 100000000 → Ev (fun k => spec_l06Root.l0 k l h ((i : Int) - 1)) ((l.take i).reverse.foldl (fun q x => Go.Proofs.Ytfjpkblkdlgaeaa.Mk.nodeOf x.f1 q) h) := by
  induction i with
  | zero =>
    intro h _ _
    refine ev_succ ?_
    simp only [spec_l06Root.l0]
    exact ev_if_neg (by omega) (ev_some _)
  | succ i ih =>
    intro h hi hs
    have hlt : i < l.length := by omega
    have hz := hB l[i] (List.getElem_mem hlt)
    have := ih (nodeOf l[i].f1 h) (by omega) (by rw [nodeOf_size]; omega)
    have w : wrap64 ((i : Int) - 1) = (i : Int) - 1 := wrap_in (by omega) (by omega)
    have e : ((i + 1 : Nat) : Int) - 1 = (i : Int) := by omega
    rw [e, List.take_succ_eq_append_getElem hlt, List.reverse_append]
    refine ev_succ ?_
    simp only [spec_l06Root.l0, rdR_at l i hlt, spec_node _ _ hz hs, Option.bind_some, w, List.reverse_cons, List.reverse_nil, List.nil_append, List.cons_append, List.foldl_cons]
    rw [nodeOf_mk]
    exact ev_if_pos (by omega) (ev_if_pos (by omega) (ev_if_pos (by omega) this))
theorem root_answer (l : List S65) (hl : l.length ≤ 1048576) :
    ∃ (n : ByteArray) (e : Int), Ev (fun k => spec_PeaksRoot.f k l) (n, e) ∧ Ev (fun k => impl_PeaksRoot.f k l) (n, e) := by
  obtain ⟨b, hs, hi, hb⟩ := peaks_same l (by omega)
  unfold spec_PeaksRoot.f impl_PeaksRoot.f
  by_cases h4 : (l.length : Int) > 4096
  · exact ⟨⟨#[]⟩, 2, ev_if_pos h4 (ev_some _), ev_if_pos h4 (ev_some _)⟩
  · cases b with
    | false => exact ⟨⟨#[]⟩, 1, ev_if_neg h4 (ev_bind hs (ev_if_neg (by simp) (ev_some _))), ev_if_neg h4 (ev_bind hi (ev_if_neg (by simp) (ev_some _)))⟩
    | true =>
      have hall := hb rfl
      have hB : ∀ x ∈ l, x.f1.size ≤ 100000000 := by
        intro x hx
        obtain ⟨j, hj, rfl⟩ := List.mem_iff_getElem.1 hx
        have := (hall j hj).2.2.2
        rw [rdR_at l j hj] at this
        omega
      by_cases hz : (l.length : Int) = 0
      · obtain rfl : l = [] := List.eq_nil_of_length_eq_zero (by omega)
        refine ⟨Go.Proofs.Ytfjpkblkdlgaeaa.Hash.sha ⟨#[]⟩, 0, ev_if_neg h4 (ev_bind hs (ev_if_pos rfl (ev_bind ?_ (ev_some _)))), ev_if_neg h4 (ev_bind hi (ev_if_pos rfl (ev_if_pos hz ?_)))⟩
        · unfold spec_l06Root.f
          have hnil : spec_l01Hash.f [] = some (Go.Proofs.Ytfjpkblkdlgaeaa.Hash.sha ⟨#[]⟩) := lhash_some [] (fun x hx => by simp at hx) (by show 0 ≤ _; omega)
          rw [hnil]
          exact ev_if_pos rfl (ev_some _)
        · rw [hash_some _ (by show 0 ≤ _; omega)]
          exact ev_some _
      · have ha : (l.all fun p => decide (p.f1.size ≤ 100000000)) = true := by
          rw [List.all_eq_true]
          exact fun x hx => decide_eq_true (hB x hx)
        refine ⟨impl_PeaksRoot.root l, 0, ev_if_neg h4 (ev_bind hs (ev_if_pos rfl (ev_bind ?_ (ev_some _)))), ev_if_neg h4 (ev_bind hi (ev_if_pos rfl (ev_if_neg hz ?_)))⟩
        · rcases List.eq_nil_or_concat l with rfl | ⟨t, p, rfl⟩
          · exact absurd rfl hz
          · rw [List.concat_eq_append] at *
            have hlen : (t ++ [p]).length = t.length + 1 := by rw [List.length_append]; rfl
            have er : impl_PeaksRoot.root (t ++ [p]) = ((t ++ [p]).take t.length).reverse.foldl (fun q x => Go.Proofs.Ytfjpkblkdlgaeaa.Mk.nodeOf x.f1 q) p.f1 := by
              unfold impl_PeaksRoot.root
              rw [List.reverse_append, List.take_left' rfl]
              rfl
            have hlast : rd_T65 (t ++ [p]) (t.length : Int) = p := by
              rw [rdR_at _ _ (by omega)]
              simp
            have w1 : wrap64 (((t ++ [p]).length : Int) - 1) = (t.length : Int) := by rw [hlen]; exact (wrap_in (by omega) (by omega)).trans (by omega)
            have w2 : wrap64 (((t ++ [p]).length : Int) - 2) = (t.length : Int) - 1 := by rw [hlen]; exact (wrap_in (by omega) (by omega)).trans (by omega)
            have hg := spec_root_from (t ++ [p]) (by omega) hB t.length p.f1 (by omega) (hB p (by simp))
            rw [er]
            unfold spec_l06Root.f
            rw [w1, w2, hlast]
            clear w1 w2
            exact ev_if_neg hz (ev_if_pos (by omega) (ev_if_pos (by omega) hg))
        · rw [if_pos ha]
          exact ev_some _
theorem FnExactPeaksRoot : laws_FnExactPeaksRoot.Pure := by
  intro l hg
  refine Ev.rounds (r := true) ?_
  unfold laws_FnExactPeaksRoot.f
  obtain ⟨s, hs, hlen⟩ := szPeakS_ev l hg 1048576 (by omega) (by omega)
  refine ev_bind hs ?_
  by_cases hneg : s < 0
  · exact ev_if_pos hneg (ev_some _)
  · obtain ⟨_, hl, _⟩ := hlen.resolve_left (by omega)
    have ht := toPeakS_ev l (by omega)
    have hml : (l.map convPeak).length = l.length := List.length_map _
    obtain ⟨n, e, h1, h2⟩ := root_answer (l.map convPeak) (by omega)
    have he := eqPeakS_ev (l.map convPeak) (by omega)
    refine ev_if_neg hneg (ev_bind ht (ev_bind h1 (ev_bind ht (ev_bind h2 (ev_if_pos rfl ?_)))))
    show Ev (fun k => laws_FnExactPeaksRoot.j0 k l (l.map convPeak) (e != e)) true
    have hee : (e != e) = false := by simp
    rw [hee]
    refine ev_succ ?_
    simp only [laws_FnExactPeaksRoot.j0]
    exact ev_if_neg (by simp) (ev_bind ht (ev_bind he (ev_if_pos rfl (ev_some _))))
end Go.Proofs.Ytfjpkblkdlgaeaa.Pure
