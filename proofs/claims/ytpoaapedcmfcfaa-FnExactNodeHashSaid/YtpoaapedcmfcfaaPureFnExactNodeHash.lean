/- The program's NodeHash answers as the reference's at all texts: the plain form. No conditions. -/
import Derived.Test.YtpoaapedcmfcfaaPFnExactNodeHashx1
import Derived.Test.YtpoaapedcmfcfaaU
namespace Go.Proofs.Ytpoaapedcmfcfaa.Pure
open Go.RowKit Go.Proofs.Ytpoaapedcmfcfaa.PFnExactNodeHash Go.Proofs.YtpoaapedcmfcfaaW.PrintWords Go.Proofs.YtpoaapedcmfcfaaW.PrintLast Go.Proofs.YtpoaapedcmfcfaaW.PrintMore Go.Proofs.Ytpoaapedcmfcfaa.U
theorem hash_some (s : ByteArray) (h : s.size ≤ 1099511627776) : impl_hash.f s = some (Go.Proofs.Ytpoaapedcmfcfaa.Hash.sha s) := by
  unfold impl_hash.f
  rw [if_pos h]
theorem lhash_some (l : List Int) (hb : ∀ x ∈ l, 0 ≤ x ∧ x < 256) (h : l.length ≤ 1099511627776) : spec_l01Hash.f l = some (Go.Proofs.Ytpoaapedcmfcfaa.Hash.sha (strOfNums l)) := by
  unfold spec_l01Hash.f
  rw [if_pos h, Go.Proofs.Ytpoaapedcmfcfaa.SHash.shaL_eq l hb]
theorem bytesOf_len (s : ByteArray) : (bytesOf s).length = s.size := bytesOf_length s

/-- What two hashes come to. -/
def nodeOf (a b : ByteArray) : ByteArray := Go.Proofs.Ytpoaapedcmfcfaa.Hash.sha ((⟨#[1]⟩ : ByteArray) ++ a ++ b)
theorem nodeOf_size (a b : ByteArray) : (nodeOf a b).size = 32 := Go.Proofs.Ytpoaapedcmfcfaa.SHash.sha_size _
theorem impl_node (a b : ByteArray) (ha : a.size ≤ 100000000) (hb : b.size ≤ 100000000) : impl_nodeHash.f a b = some (nodeOf a b) := by
  unfold impl_nodeHash.f
  rw [if_pos (by omega), if_pos (by omega), hash_some _ (by rw [ByteArray.size_append, ByteArray.size_append]; show 1 + _ + _ ≤ _; omega)]
  rfl
theorem spec_node (a b : ByteArray) (ha : a.size ≤ 100000000) (hb : b.size ≤ 100000000) : spec_l06Node.f a b = some (nodeOf a b) := by
  unfold spec_l06Node.f
  simp only [Option.bind_some]
  rw [if_pos (by show 1 + _ < _; omega), if_pos (by rw [List.length_append, bytesOf_len]; show 1 + _ + _ < _; omega), lhash_some _ (fun x hx => by
    simp only [List.mem_append, List.mem_cons, List.not_mem_nil, or_false] at hx
    rcases hx with (rfl | h) | h
    · omega
    · exact bytesOf_range a x h
    · exact bytesOf_range b x h) (by rw [List.length_append, List.length_append, bytesOf_len, bytesOf_len]; show 1 + _ + _ ≤ _; omega)]
  rw [strOfNums_append, strOfNums_append, strOfNums_bytesOf, strOfNums_bytesOf]
  rfl

theorem any_two (p : ByteArray → Bool) (a b : ByteArray) : [a, b].any p = (p a || p b) := by simp
theorem FnExactNodeHash : laws_FnExactNodeHash.Pure := by
  intro a b _ _
  refine Ev.rounds (r := true) ?_
  unfold laws_FnExactNodeHash.f
  by_cases h1 : (a.size : Int) > 1048576
  · exact ev_if_pos h1 (ev_some _)
  · by_cases h2 : (b.size : Int) > 1048576
    · exact ev_if_neg h1 (ev_if_pos h2 (ev_some _))
    · have hsame : ∃ p : ByteArray × Int, Ev (fun k => spec_NodeHash.f k a b) p ∧ impl_NodeHash.f a b = some p := by
        unfold spec_NodeHash.f impl_NodeHash.f impl_isText.f impl_isHash.f
        simp only [Option.bind_some, any_two, impl_isText.p, impl_isHash.p]
        by_cases h3 : (a.size : Int) > 65536 ∨ (b.size : Int) > 65536
        · refine ⟨((⟨#[]⟩ : ByteArray), 2), ?_, ?_⟩
          · rcases h3 with h3 | h3
            · refine ev_if_pos h3 (ev_succ ?_)
              simp only [spec_NodeHash.j0]
              exact ev_if_pos trivial (ev_some _)
            · by_cases h4 : (a.size : Int) > 65536
              · refine ev_if_pos h4 (ev_succ ?_)
                simp only [spec_NodeHash.j0]
                exact ev_if_pos trivial (ev_some _)
              · refine ev_if_neg h4 (ev_succ ?_)
                simp only [spec_NodeHash.j0]
                exact ev_if_pos (decide_eq_true h3) (ev_some _)
          · rw [if_neg (by simp; omega)]
        · have h4 : ¬ (a.size : Int) > 65536 := fun h => h3 (.inl h)
          have h5 : ¬ (b.size : Int) > 65536 := fun h => h3 (.inr h)
          rw [if_pos (by simp; omega)]
          by_cases h6 : a.size = 32 ∧ b.size = 32
          · refine ⟨(nodeOf a b, 0), ?_, ?_⟩
            · refine ev_if_neg h4 (ev_succ ?_)
              simp only [spec_NodeHash.j0]
              refine ev_if_neg (by simp; omega) (ev_if_pos (by omega) (ev_if_pos (by omega) ?_))
              rw [spec_node a b (by omega) (by omega)]
              exact ev_some _
            · rw [if_pos (by simp [h6.1, h6.2]), impl_node a b (by omega) (by omega)]
              rfl
          · refine ⟨((⟨#[]⟩ : ByteArray), 1), ?_, ?_⟩
            · refine ev_if_neg h4 (ev_succ ?_)
              simp only [spec_NodeHash.j0]
              refine ev_if_neg (by simp; omega) ?_
              by_cases h7 : (a.size : Int) = 32
              · exact ev_if_pos h7 (ev_if_neg (by omega) (ev_some _))
              · exact ev_if_neg h7 (ev_some _)
            · rw [if_neg]
              simp
              omega
      obtain ⟨p, hs, hi⟩ := hsame
      refine ev_if_neg h1 (ev_if_neg h2 (ev_bind hs ?_))
      rw [hi]
      simp only [Option.bind_some]
      exact ev_if_pos (by first | rfl | trivial) (ev_if_pos (by first | rfl | trivial) (ev_some _))
end Go.Proofs.Ytpoaapedcmfcfaa.Pure
