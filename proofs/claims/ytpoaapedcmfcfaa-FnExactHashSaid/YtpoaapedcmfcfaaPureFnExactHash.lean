/- The program's Hash answers as the reference's at all bytes: the plain form. No conditions. -/
import Derived.Test.YtpoaapedcmfcfaaPFnExactHashx1
import Derived.Test.YtpoaapedcmfcfaaU
namespace Go.Proofs.Ytpoaapedcmfcfaa.Pure
open Go.RowKit Go.Proofs.Ytpoaapedcmfcfaa.PFnExactHash Go.Proofs.YtpoaapedcmfcfaaW.PrintWords Go.Proofs.YtpoaapedcmfcfaaW.PrintLast Go.Proofs.YtpoaapedcmfcfaaW.PrintMore Go.Proofs.Ytpoaapedcmfcfaa.U
theorem hash_some (s : ByteArray) (h : s.size ≤ 1099511627776) : impl_hash.f s = some (Go.Proofs.Ytpoaapedcmfcfaa.Hash.sha s) := by
  unfold impl_hash.f
  rw [if_pos h]
theorem lhash_some (l : List Int) (hb : ∀ x ∈ l, 0 ≤ x ∧ x < 256) (h : l.length ≤ 1099511627776) : spec_l01Hash.f l = some (Go.Proofs.Ytpoaapedcmfcfaa.Hash.sha (strOfNums l)) := by
  unfold spec_l01Hash.f
  rw [if_pos h, Go.Proofs.Ytpoaapedcmfcfaa.SHash.shaL_eq l hb]
theorem bytesOf_len (s : ByteArray) : (bytesOf s).length = s.size := bytesOf_length s

/-- A copy of bytes is the bytes. -/
theorem toByteS_ev (l : List Int) (hl : l.length ≤ 1048576) : Ev (fun k => laws_toByteS.f k l) l := by
  have key := ev_loop (fun k (s : List Int × Int) => laws_toByteS.l0 k l s.1 s.2) (fun s => 0 ≤ s.2 ∧ s.2 ≤ l.length ∧ s.1.length = l.length ∧ ∀ j : Nat, j < s.2.toNat → s.1[j]? = l[j]?) (fun s => l.length - s.2.toNat) (fun _ => l) (by
    rintro ⟨x, i⟩ ⟨h0, h1, h2, h3⟩
    by_cases hi : i < (l.length : Int)
    · right
      obtain ⟨hs1, hs2⟩ := copy_step l x i.toNat 0 h2 (by simp only at h0; omega) h3
      refine ⟨(x.set i.toNat (rd l i), i + 1), ⟨by simp only at h0 ⊢; omega, by simp only at h0 ⊢; omega, hs1, fun j hj => hs2 j (by simp only at h0 hj ⊢; omega)⟩, by simp only at h0 ⊢; omega, rfl, 0, fun j _ => ?_⟩
      show laws_toByteS.l0 (j + 1) l x i = _
      simp only at h0 h1 h2
      simp only [laws_toByteS.l0]
      rw [if_pos hi, if_pos h0, if_pos (by omega), wrap_in (by omega) (by omega)]
    · left
      refine ⟨0, fun j _ => ?_⟩
      show laws_toByteS.l0 (j + 1) l x i = _
      simp only at h0 h1 h2 h3
      simp only [laws_toByteS.l0]
      rw [if_neg hi, copy_end l x h2 (fun j hj => h3 j (by omega))])
  have := key (List.replicate l.length 0, 0) ⟨by simp, by simp, by simp, fun j hj => absurd hj (by simp)⟩
  refine ev_congr (fun k => ?_) this
  unfold laws_toByteS.f
  rw [if_pos (by omega), if_pos (by omega), Int.toNat_natCast]

theorem eqByteS_ev (l : List Int) (hl : l.length ≤ 1048576) : Ev (fun k => laws_eqByteS.f k l l) true := by
  have key := ev_loop (fun k (i : Int) => laws_eqByteS.l0 k l l i) (fun i => 0 ≤ i ∧ i ≤ l.length) (fun i => l.length - i.toNat) (fun _ => true) (by
    rintro i ⟨h0, h1⟩
    by_cases hi : i < (l.length : Int)
    · right
      refine ⟨i + 1, ⟨by omega, by omega⟩, by omega, rfl, 0, fun j _ => ?_⟩
      simp only [laws_eqByteS.l0]
      rw [if_pos hi, if_pos h0, if_pos hi, if_pos trivial, wrap_in (by omega) (by omega)]
    · left
      refine ⟨0, fun j _ => ?_⟩
      simp only [laws_eqByteS.l0]
      rw [if_neg hi])
  refine ev_congr (fun k => ?_) (key 0 ⟨by omega, by omega⟩)
  unfold laws_eqByteS.f
  rw [if_pos rfl]

theorem FnExactHash : laws_FnExactHash.Pure := by
  intro l _ _ hwf
  refine Ev.rounds (r := true) ?_
  unfold laws_FnExactHash.f
  by_cases h1 : (l.length : Int) > 1048576
  · exact ev_if_pos h1 (ev_some _)
  · have hl : l.length ≤ 1048576 := by omega
    have hb : ∀ x ∈ l, 0 ≤ x ∧ x < 256 := fun x hx => by
      have h := hwf x hx
      simp only [Lit.wf, Bool.and_eq_true, decide_eq_true_eq] at h
      have h1 : IntKind.u8.min = 0 := rfl
      have h2 : IntKind.u8.max = 255 := rfl
      omega
    have ht := toByteS_ev l hl
    have he := eqByteS_ev l hl
    have hsame : ∃ s : ByteArray, spec_Hash.f l = some s ∧ impl_Hash.f l = some s := by
      unfold spec_Hash.f impl_Hash.f
      by_cases h2 : (l.length : Int) > 65536
      · exact ⟨_, by rw [if_pos h2], by rw [if_pos h2]⟩
      · refine ⟨Go.Proofs.Ytpoaapedcmfcfaa.Hash.sha (strOfNums l), ?_, ?_⟩
        · rw [if_neg h2, lhash_some l hb (by omega)]; rfl
        · rw [if_neg h2, hash_some _ (by rw [size_strOfNums]; omega)]; rfl
    obtain ⟨s, hs, hi⟩ := hsame
    exact ev_if_neg h1 (ev_bind ht (ev_bind (ev_of_eq fun _ => hs) (ev_bind ht (ev_bind (ev_of_eq fun _ => hi) (ev_if_pos (by first | rfl | trivial) (ev_bind ht (ev_bind he (ev_if_pos (by first | rfl | trivial) (ev_some _)))))))))
end Go.Proofs.Ytpoaapedcmfcfaa.Pure
