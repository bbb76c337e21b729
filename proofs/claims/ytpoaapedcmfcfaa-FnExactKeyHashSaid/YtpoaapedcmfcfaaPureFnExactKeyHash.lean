/- The program's KeyHash answers as the reference's at all texts: the plain form. No conditions. -/
import Derived.Test.YtpoaapedcmfcfaaPFnExactKeyHashx1
import Derived.Test.YtpoaapedcmfcfaaU
namespace Go.Proofs.Ytpoaapedcmfcfaa.Pure
open Go.RowKit Go.Proofs.Ytpoaapedcmfcfaa.PFnExactKeyHash Go.Proofs.YtpoaapedcmfcfaaW.PrintWords Go.Proofs.YtpoaapedcmfcfaaW.PrintLast Go.Proofs.YtpoaapedcmfcfaaW.PrintMore Go.Proofs.Ytpoaapedcmfcfaa.U
theorem hash_some (s : ByteArray) (h : s.size ≤ 1099511627776) : impl_hash.f s = some (Go.Proofs.Ytpoaapedcmfcfaa.Hash.sha s) := by
  unfold impl_hash.f
  rw [if_pos h]
theorem lhash_some (l : List Int) (hb : ∀ x ∈ l, 0 ≤ x ∧ x < 256) (h : l.length ≤ 1099511627776) : spec_l01Hash.f l = some (Go.Proofs.Ytpoaapedcmfcfaa.Hash.sha (strOfNums l)) := by
  unfold spec_l01Hash.f
  rw [if_pos h, Go.Proofs.Ytpoaapedcmfcfaa.SHash.shaL_eq l hb]
theorem bytesOf_len (s : ByteArray) : (bytesOf s).length = s.size := bytesOf_length s

theorem FnExactKeyHash : laws_FnExactKeyHash.Pure := by
  intro a _
  unfold laws_FnExactKeyHash.f
  by_cases h1 : (a.size : Int) > 1048576
  · rw [if_pos h1]
  · rw [if_neg h1]
    have hk : ∃ b, spec_l02Key.f a = some b ∧ impl_isKey.f a = some b := by
      unfold spec_l02Key.f impl_isKey.f impl_within.f
      by_cases h : (a.size : Int) ≥ 1
      · exact ⟨_, by rw [if_pos h], by rw [if_pos h]; rfl⟩
      · exact ⟨_, by rw [if_neg h], by rw [if_neg h]; rfl⟩
    obtain ⟨b, hk1, hk2⟩ := hk
    have hsame : ∃ p : ByteArray × Int, spec_KeyHash.f a = some p ∧ impl_KeyHash.f a = some p := by
      unfold spec_KeyHash.f impl_KeyHash.f impl_isText.f
      simp only [Option.bind_some, hk1, hk2, impl_isText.p, List.any_cons, List.any_nil, Bool.or_false]
      by_cases h2 : (a.size : Int) > 65536
      · have hc : (!decide ((a.size : Int) > 65536)) = false := by rw [decide_eq_true h2]; rfl
        rw [hc, if_pos h2]
        exact ⟨_, rfl, rfl⟩
      · have hc : (!decide ((a.size : Int) > 65536)) = true := by rw [decide_eq_false h2]; rfl
        rw [hc, if_neg h2, hash_some a (by omega)]
        unfold spec_l07Hash.f
        rw [if_pos (show a.size ≤ 1099511627776 by omega)]
        cases b with
        | false => exact ⟨_, rfl, rfl⟩
        | true => exact ⟨_, rfl, rfl⟩
    obtain ⟨p, hs, hi⟩ := hsame
    rw [hs, hi]
    simp
end Go.Proofs.Ytpoaapedcmfcfaa.Pure
