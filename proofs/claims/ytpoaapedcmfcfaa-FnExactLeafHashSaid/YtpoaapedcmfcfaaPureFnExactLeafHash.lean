/- The program's LeafHash answers as the reference's at all texts: the plain form. No conditions. -/
import Derived.Test.YtpoaapedcmfcfaaPFnExactLeafHashx1
import Derived.Test.YtpoaapedcmfcfaaU
namespace Go.Proofs.Ytpoaapedcmfcfaa.Pure
open Go.RowKit Go.Proofs.Ytpoaapedcmfcfaa.PFnExactLeafHash Go.Proofs.YtpoaapedcmfcfaaW.PrintWords Go.Proofs.YtpoaapedcmfcfaaW.PrintLast Go.Proofs.YtpoaapedcmfcfaaW.PrintMore Go.Proofs.Ytpoaapedcmfcfaa.U
theorem hash_some (s : ByteArray) (h : s.size ≤ 1099511627776) : impl_hash.f s = some (Go.Proofs.Ytpoaapedcmfcfaa.Hash.sha s) := by
  unfold impl_hash.f
  rw [if_pos h]
theorem lhash_some (l : List Int) (hb : ∀ x ∈ l, 0 ≤ x ∧ x < 256) (h : l.length ≤ 1099511627776) : spec_l01Hash.f l = some (Go.Proofs.Ytpoaapedcmfcfaa.Hash.sha (strOfNums l)) := by
  unfold spec_l01Hash.f
  rw [if_pos h, Go.Proofs.Ytpoaapedcmfcfaa.SHash.shaL_eq l hb]
theorem bytesOf_len (s : ByteArray) : (bytesOf s).length = s.size := bytesOf_length s

theorem FnExactLeafHash : laws_FnExactLeafHash.Pure := by
  intro a _
  unfold laws_FnExactLeafHash.f
  by_cases h1 : (a.size : Int) > 1048576
  · rw [if_pos h1]
  · rw [if_neg h1]
    have hsame : ∃ p : ByteArray × Int, spec_LeafHash.f a = some p ∧ impl_LeafHash.f a = some p := by
      unfold spec_LeafHash.f impl_LeafHash.f
      by_cases h2 : (a.size : Int) > 65535
      · exact ⟨_, by rw [if_pos h2], by rw [if_pos (by omega)]⟩
      · refine ⟨(Go.Proofs.Ytpoaapedcmfcfaa.Hash.sha ((⟨#[0]⟩ : ByteArray) ++ a), 0), ?_, ?_⟩
        · rw [if_neg h2]
          unfold spec_l06Leaf.f
          simp only [Option.bind_some]
          rw [if_pos (by show 1 + _ < _; omega), lhash_some _ (fun x hx => by
            simp only [List.mem_append, List.mem_cons, List.not_mem_nil, or_false] at hx
            rcases hx with rfl | h
            · omega
            · exact bytesOf_range a x h) (by rw [List.length_append, bytesOf_len]; show 1 + _ ≤ _; omega), strOfNums_append, strOfNums_bytesOf]
          rfl
        · rw [if_neg (by omega)]
          unfold impl_leafHash.f
          rw [if_pos (by omega), hash_some _ (by rw [ByteArray.size_append]; show 1 + _ ≤ _; omega)]
          rfl
    obtain ⟨p, hs, hi⟩ := hsame
    rw [hs, hi]
    simp
end Go.Proofs.Ytpoaapedcmfcfaa.Pure
