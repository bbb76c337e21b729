/- That a log has a leaf at a place is proved by InclusionProof, and InclusionRoot finds it: the plain form. No conditions. -/
import Derived.Test.YtamjkgbimcpfaaaPFnMerklex8
import Derived.Test.YtamjkgbimcpfaaaU
import Derived.Test.YtamjkgbimcpfaaaMk
namespace Go.Proofs.Ytamjkgbimcpfaaa.Pure
open Go.RowKit Go.Proofs.Ytamjkgbimcpfaaa.PFnMerkle Go.Proofs.YtamjkgbimcpfaaaW.PrintWords Go.Proofs.YtamjkgbimcpfaaaW.PrintLast Go.Proofs.YtamjkgbimcpfaaaW.PrintMore Go.Proofs.Ytamjkgbimcpfaaa.U
set_option linter.unusedVariables false
set_option linter.unusedSimpArgs false
/-- The greatest power of two below a number above one. -/
def halfGo : Nat → Nat → Nat → Nat
  | 0, _, x => x
  | f + 1, n, x => if 2 * x < n then halfGo f n (2 * x) else x
def halfN (n : Nat) : Nat := halfGo n n 1
theorem halfGo_lt (f : Nat) : ∀ (n x : Nat), 1 ≤ x → x < n → 1 ≤ halfGo f n x ∧ halfGo f n x < n := by
  induction f with
  | zero => intro n x h1 h2; exact ⟨h1, h2⟩
  | succ f ih =>
    intro n x h1 h2
    unfold halfGo
    split
    · exact ih n (2 * x) (by omega) (by omega)
    · exact ⟨h1, h2⟩
theorem halfN_lt (n : Nat) (h : 2 ≤ n) : 1 ≤ halfN n ∧ halfN n < n := halfGo_lt n n 1 (by omega) (by omega)
theorem half_ev (f : Nat) : ∀ (n x : Nat), n ≤ 1000000 → 1 ≤ x → x ≤ 1000000 → n - x ≤ f → Ev (fun k => spec_l06Half.l0 k (n : Int) (x : Int)) ((halfGo f n x : Nat) : Int) := by
  induction f with
  | zero =>
    intro n x hn h1 h2 hf
    have w1 : wrap64 (2 * (x : Int)) = 2 * (x : Int) := wrap_in (by omega) (by omega)
    refine ev_succ ?_
    simp only [spec_l06Half.l0, w1]
    exact ev_if_neg (by omega) (ev_some _)
  | succ f ih =>
    intro n x hn h1 h2 hf
    have w1 : Aside0 (wrap64 (2 * (x : Int)) = 2 * (x : Int)) := ⟨wrap_in (by omega) (by omega)⟩
    have w2 : Aside0 (wrap64 ((x : Int) * 2) = ((2 * x : Nat) : Int)) := ⟨(wrap_in (by omega) (by omega)).trans (by omega)⟩
    refine ev_succ ?_
    simp only [spec_l06Half.l0, w1.out, w2.out, halfGo]
    by_cases h : 2 * x < n
    · rw [if_pos h]
      exact ev_if_pos (by omega) (ih n (2 * x) hn (by omega) (by omega) (by omega))
    · rw [if_neg h]
      exact ev_if_neg (by omega) (ev_some _)
theorem split_ev (f : Nat) : ∀ (n x : Nat), n ≤ 1000000 → 1 ≤ x → x ≤ 1000000 → n - x ≤ f → Ev (fun k => impl_split.l0 k (n : Int) (x : Int)) ((halfGo f n x : Nat) : Int) := by
  induction f with
  | zero =>
    intro n x hn h1 h2 hf
    have w1 : wrap64 (2 * (x : Int)) = 2 * (x : Int) := wrap_in (by omega) (by omega)
    refine ev_succ ?_
    simp only [impl_split.l0, w1]
    exact ev_if_neg (by omega) (ev_some _)
  | succ f ih =>
    intro n x hn h1 h2 hf
    have w1 : Aside0 (wrap64 (2 * (x : Int)) = 2 * (x : Int)) := ⟨wrap_in (by omega) (by omega)⟩
    have w2 : Aside0 (wrap64 ((x : Int) * 2) = ((2 * x : Nat) : Int)) := ⟨(wrap_in (by omega) (by omega)).trans (by omega)⟩
    refine ev_succ ?_
    simp only [impl_split.l0, w1.out, w2.out, halfGo]
    by_cases h : 2 * x < n
    · rw [if_pos h]
      exact ev_if_pos (by omega) (ih n (2 * x) hn (by omega) (by omega) (by omega))
    · rw [if_neg h]
      exact ev_if_neg (by omega) (ev_some _)
theorem half_any (n : Nat) (hn : n ≤ 1000000) : Ev (fun k => spec_l06Half.f k (n : Int)) ((halfN n : Nat) : Int) := half_ev n n 1 hn (by omega) (by omega) (by omega)
theorem split_any (n : Nat) (hn : n ≤ 1000000) : Ev (fun k => impl_split.f k (n : Int)) ((halfN n : Nat) : Int) := split_ev n n 1 hn (by omega) (by omega) (by omega)

theorem hash_some (s : ByteArray) (h : s.size ≤ 1099511627776) : impl_hash.f s = some (Go.Proofs.Ytamjkgbimcpfaaa.Hash.sha s) := by
  unfold impl_hash.f
  rw [if_pos h]
theorem lhash_some (l : List Int) (hb : ∀ x ∈ l, 0 ≤ x ∧ x < 256) (h : l.length ≤ 1099511627776) : spec_l01Hash.f l = some (Go.Proofs.Ytamjkgbimcpfaaa.Hash.sha (strOfNums l)) := by
  unfold spec_l01Hash.f
  rw [if_pos h, Go.Proofs.Ytamjkgbimcpfaaa.SHash.shaL_eq l hb]
theorem bytesOf_len (s : ByteArray) : (bytesOf s).length = s.size := bytesOf_length s

/-- What two hashes come to. -/
def nodeOf (a b : ByteArray) : ByteArray := Go.Proofs.Ytamjkgbimcpfaaa.Hash.sha ((⟨#[1]⟩ : ByteArray) ++ a ++ b)
theorem nodeOf_size (a b : ByteArray) : (nodeOf a b).size = 32 := Go.Proofs.Ytamjkgbimcpfaaa.SHash.sha_size _
theorem impl_node (a b : ByteArray) (ha : a.size ≤ 100000000) (hb : b.size ≤ 100000000) : impl_nodeHash.f a b = some (nodeOf a b) := by
  unfold impl_nodeHash.f
  rw [if_pos (by omega), if_pos (by omega), hash_some _ (by rw [ByteArray.size_append, ByteArray.size_append]; show 1 + _ + _ ≤ _; omega)]
  rfl
theorem spec_node (a b : ByteArray) (ha : a.size ≤ 100000000) (hb : b.size ≤ 100000000) : spec_l06Node.f a b = some (nodeOf a b) := by
  unfold spec_l06Node.f
  simp only [Option.bind_some]
  rw [if_pos (by show 1 + _ < _; omega), if_pos (by rw [List.length_append, bytesOf_len]; show 1 + _ + _ < _; omega), lhash_some _ (fun x hx => by
    simp only [List.mem_append, List.mem_cons, List.not_mem_nil, or_false] at hx
    rcases hx with (rfl | h) | h
    · omega
    · exact bytesOf_range a x h
    · exact bytesOf_range b x h) (by rw [List.length_append, List.length_append, bytesOf_len, bytesOf_len]; show 1 + _ + _ ≤ _; omega)]
  rw [strOfNums_append, strOfNums_append, strOfNums_bytesOf, strOfNums_bytesOf]
  rfl

theorem halfGo_mk (f : Nat) : ∀ n x : Nat, halfGo f n x = Go.Proofs.Ytamjkgbimcpfaaa.Mk.halfGo f n x := by
  induction f with
  | zero => intro n x; rfl
  | succ f ih =>
    intro n x
    simp only [halfGo, Go.Proofs.Ytamjkgbimcpfaaa.Mk.halfGo]
    split
    · exact ih n _
    · rfl
theorem half_mk (n : Nat) (hn : n ≤ 1000000) : Ev (fun k => spec_l06Half.f k (n : Int)) ((Go.Proofs.Ytamjkgbimcpfaaa.Mk.halfN n : Nat) : Int) := by
  have := half_any n hn
  unfold halfN at this
  rw [halfGo_mk] at this
  exact this
theorem node_mk (a b : ByteArray) (ha : a.size ≤ 100000000) (hb : b.size ≤ 100000000) : spec_l06Node.f a b = some (Go.Proofs.Ytamjkgbimcpfaaa.Mk.nodeOf a b) := spec_node a b ha hb
/-- How a list ends. -/
theorem rev_len (z : ByteArray) (ys : List ByteArray) : (z :: ys).reverse.length = ys.length + 1 := by simp
theorem rev_take (z : ByteArray) (ys : List ByteArray) : (z :: ys).reverse.take ys.length = ys.reverse := by
  rw [List.reverse_cons]
  exact List.take_left' (by simp)
theorem rev_last (z : ByteArray) (ys : List ByteArray) : rdOf ByteArray.empty (z :: ys).reverse (ys.length : Int) = z := by
  unfold rdOf
  rw [Int.toNat_natCast, List.getD_eq_getElem?_getD, List.reverse_cons, List.getElem?_append_right (by simp)]
  simp

theorem halfN_mk (n : Nat) : halfN n = Go.Proofs.Ytamjkgbimcpfaaa.Mk.halfN n := halfGo_mk n n 1



/-- The hash of leaf hashes. -/
def treeOf (l : List ByteArray) : ByteArray :=
  if _h0 : l.length = 0 then Go.Proofs.Ytamjkgbimcpfaaa.Hash.sha ⟨#[]⟩
  else if _h1 : l.length = 1 then l.getD 0 ByteArray.empty
  else nodeOf (treeOf (l.take (halfN l.length))) (treeOf (l.drop (halfN l.length)))
  termination_by l.length
  decreasing_by
    · have := halfN_lt l.length (by omega)
      rw [List.length_take]
      omega
    · have := halfN_lt l.length (by omega)
      rw [List.length_drop]
      omega
theorem treeOf_zero (l : List ByteArray) (h : l.length = 0) : treeOf l = Go.Proofs.Ytamjkgbimcpfaaa.Hash.sha ⟨#[]⟩ := by rw [treeOf, dif_pos h]
theorem treeOf_one (l : List ByteArray) (h : l.length = 1) : treeOf l = l.getD 0 ByteArray.empty := by rw [treeOf, dif_neg (by omega), dif_pos h]
theorem treeOf_more (l : List ByteArray) (h : 2 ≤ l.length) : treeOf l = nodeOf (treeOf (l.take (halfN l.length))) (treeOf (l.drop (halfN l.length))) := by rw [treeOf, dif_neg (by omega), dif_neg (by omega)]
theorem rdOf_zero (l : List ByteArray) : rdOf ByteArray.empty l 0 = l.getD 0 ByteArray.empty := rfl
theorem getD_mem_size (l : List ByteArray) (n : Nat) (h : ∀ x ∈ l, x.size ≤ n) : (l.getD 0 ByteArray.empty).size ≤ n := by
  cases l with
  | nil => exact Nat.zero_le _
  | cons a t => exact h a List.mem_cons_self
theorem treeOf_size (l : List ByteArray) (h : ∀ x ∈ l, x.size ≤ 100000000) : (treeOf l).size ≤ 100000000 := by
  by_cases h0 : l.length = 0
  · rw [treeOf_zero l h0, Go.Proofs.Ytamjkgbimcpfaaa.SHash.sha_size]; omega
  · by_cases h1 : l.length = 1
    · rw [treeOf_one l h1]; exact getD_mem_size l _ h
    · rw [treeOf_more l (by omega), nodeOf_size]; omega
theorem impl_tree_ev (m : Nat) : ∀ l : List ByteArray, l.length ≤ m → l.length ≤ 1000000 → (∀ x ∈ l, x.size ≤ 100000000) → Ev (fun k => impl_treeHash.f k l) (treeOf l) := by
  induction m with
  | zero =>
    intro l hm _ _
    rw [treeOf_zero l (by omega)]
    refine ev_succ ?_
    simp only [impl_treeHash.f]
    refine ev_if_pos (by omega) ?_
    rw [hash_some _ (by show 0 ≤ _; omega)]
    exact ev_some _
  | succ m ih =>
    intro l hm hl hs
    refine ev_succ ?_
    simp only [impl_treeHash.f]
    by_cases h0 : l.length = 0
    · rw [treeOf_zero l h0]
      refine ev_if_pos (by omega) ?_
      rw [hash_some _ (by show 0 ≤ _; omega)]
      exact ev_some _
    · by_cases h1 : l.length = 1
      · rw [treeOf_one l h1]
        exact ev_if_neg (by omega) (ev_if_pos (by omega) (ev_if_pos (by omega) (ev_some _)))
      · have hh := halfN_lt l.length (by omega)
        have h2 := ih (l.take (halfN l.length)) (by rw [List.length_take]; omega) (by rw [List.length_take]; omega) (fun x hx => hs x (List.mem_of_mem_take hx))
        have h3 := ih (l.drop (halfN l.length)) (by rw [List.length_drop]; omega) (by rw [List.length_drop]; omega) (fun x hx => hs x (List.mem_of_mem_drop hx))
        rw [treeOf_more l (by omega)]
        refine ev_if_neg (by omega) (ev_if_neg (by omega) (ev_bind (split_any l.length hl) (ev_if_pos (by omega) (ev_if_pos (by omega) ?_))))
        rw [Int.toNat_natCast]
        refine ev_bind h2 (ev_bind h3 ?_)
        rw [impl_node _ _ (treeOf_size _ fun x hx => hs x (List.mem_of_mem_take hx)) (treeOf_size _ fun x hx => hs x (List.mem_of_mem_drop hx))]
        exact ev_some _
theorem spec_tree_ev (m : Nat) : ∀ l : List ByteArray, l.length ≤ m → l.length ≤ 1000000 → (∀ x ∈ l, x.size ≤ 100000000) → Ev (fun k => spec_l06Tree.f k l) (treeOf l) := by
  have hnil : spec_l01Hash.f [] = some (Go.Proofs.Ytamjkgbimcpfaaa.Hash.sha ⟨#[]⟩) := lhash_some [] (fun x hx => by simp at hx) (by show 0 ≤ _; omega)
  induction m with
  | zero =>
    intro l hm _ _
    rw [treeOf_zero l (by omega)]
    refine ev_succ ?_
    simp only [spec_l06Tree.f]
    refine ev_if_pos (by omega) ?_
    rw [hnil]
    exact ev_some _
  | succ m ih =>
    intro l hm hl hs
    refine ev_succ ?_
    simp only [spec_l06Tree.f]
    by_cases h0 : l.length = 0
    · rw [treeOf_zero l h0]
      refine ev_if_pos (by omega) ?_
      rw [hnil]
      exact ev_some _
    · by_cases h1 : l.length = 1
      · rw [treeOf_one l h1]
        exact ev_if_neg (by omega) (ev_if_pos (by omega) (ev_if_pos (by omega) (ev_some _)))
      · have hh := halfN_lt l.length (by omega)
        have h2 := ih (l.take (halfN l.length)) (by rw [List.length_take]; omega) (by rw [List.length_take]; omega) (fun x hx => hs x (List.mem_of_mem_take hx))
        have h3 := ih (l.drop (halfN l.length)) (by rw [List.length_drop]; omega) (by rw [List.length_drop]; omega) (fun x hx => hs x (List.mem_of_mem_drop hx))
        rw [treeOf_more l (by omega)]
        refine ev_if_neg (by omega) (ev_if_neg (by omega) (ev_bind (half_any l.length hl) (ev_if_pos (by omega) (ev_if_pos (by omega) ?_))))
        rw [Int.toNat_natCast]
        refine ev_bind h2 (ev_bind h3 ?_)
        rw [spec_node _ _ (treeOf_size _ fun x hx => hs x (List.mem_of_mem_take hx)) (treeOf_size _ fun x hx => hs x (List.mem_of_mem_drop hx))]
        exact ev_some _

/-- The hashes beside the way from a leaf up. -/
def pathOf (l : List ByteArray) (at_ : Nat) : List ByteArray :=
  if _h1 : l.length ≤ 1 then []
  else if at_ < halfN l.length then pathOf (l.take (halfN l.length)) at_ ++ [treeOf (l.drop (halfN l.length))]
  else pathOf (l.drop (halfN l.length)) (at_ - halfN l.length) ++ [treeOf (l.take (halfN l.length))]
  termination_by l.length
  decreasing_by
    · have := halfN_lt l.length (by omega)
      rw [List.length_take]
      omega
    · have := halfN_lt l.length (by omega)
      rw [List.length_drop]
      omega
theorem pathOf_one (l : List ByteArray) (i : Nat) (h : l.length ≤ 1) : pathOf l i = [] := by rw [pathOf, dif_pos h]
theorem pathOf_low (l : List ByteArray) (i : Nat) (h : 2 ≤ l.length) (hi : i < halfN l.length) : pathOf l i = pathOf (l.take (halfN l.length)) i ++ [treeOf (l.drop (halfN l.length))] := by rw [pathOf, dif_neg (by omega), if_pos hi]
theorem pathOf_high (l : List ByteArray) (i : Nat) (h : 2 ≤ l.length) (hi : ¬ i < halfN l.length) : pathOf l i = pathOf (l.drop (halfN l.length)) (i - halfN l.length) ++ [treeOf (l.take (halfN l.length))] := by rw [pathOf, dif_neg (by omega), if_neg hi]
theorem pathOf_length (m : Nat) : ∀ (l : List ByteArray) (i : Nat), l.length ≤ m → (pathOf l i).length ≤ l.length := by
  induction m with
  | zero => intro l i h; rw [pathOf_one l i (by omega)]; simp
  | succ m ih =>
    intro l i h
    by_cases h1 : l.length ≤ 1
    · rw [pathOf_one l i h1]; simp
    · have hh := halfN_lt l.length (by omega)
      by_cases hi : i < halfN l.length
      · rw [pathOf_low l i (by omega) hi, List.length_append]
        have := ih (l.take (halfN l.length)) i (by rw [List.length_take]; omega)
        rw [List.length_take] at this
        simp only [List.length_cons, List.length_nil]
        omega
      · rw [pathOf_high l i (by omega) hi, List.length_append]
        have := ih (l.drop (halfN l.length)) (i - halfN l.length) (by rw [List.length_drop]; omega)
        rw [List.length_drop] at this
        simp only [List.length_cons, List.length_nil]
        omega
theorem impl_path_ev (m : Nat) : ∀ (l : List ByteArray) (i : Nat), l.length ≤ m → l.length ≤ 1000000 → i ≤ 1000000 → (∀ x ∈ l, x.size ≤ 100000000) → Ev (fun k => impl_inclusion.f k l (i : Int)) (pathOf l i) := by
  induction m with
  | zero =>
    intro l i hm _ _ _
    rw [pathOf_one l i (by omega)]
    refine ev_succ ?_
    simp only [impl_inclusion.f]
    exact ev_if_pos (by omega) (ev_some _)
  | succ m ih =>
    intro l i hm hl hi' hs
    refine ev_succ ?_
    simp only [impl_inclusion.f]
    by_cases h1 : l.length ≤ 1
    · rw [pathOf_one l i h1]
      exact ev_if_pos (by omega) (ev_some _)
    · have hh := halfN_lt l.length (by omega)
      have st : ∀ x ∈ l.take (halfN l.length), x.size ≤ 100000000 := fun x hx => hs x (List.mem_of_mem_take hx)
      have sd : ∀ x ∈ l.drop (halfN l.length), x.size ≤ 100000000 := fun x hx => hs x (List.mem_of_mem_drop hx)
      have lt : (l.take (halfN l.length)).length = halfN l.length := by rw [List.length_take]; omega
      have ld : (l.drop (halfN l.length)).length = l.length - halfN l.length := List.length_drop
      by_cases hi : i < halfN l.length
      · have h2 := ih (l.take (halfN l.length)) i (by omega) (by omega) hi' st
        have h3 := impl_tree_ev _ (l.drop (halfN l.length)) (Nat.le_refl _) (by omega) sd
        have h4 := pathOf_length _ (l.take (halfN l.length)) i (Nat.le_refl _)
        rw [pathOf_low l i (by omega) hi]
        refine ev_if_neg (by omega) (ev_bind (split_any l.length hl) (ev_if_pos (by omega) (ev_if_pos (by omega) (ev_if_pos (by omega) ?_))))
        rw [Int.toNat_natCast]
        exact ev_bind h2 (ev_bind h3 (ev_if_pos (by omega) (ev_some _)))
      · have h2 := ih (l.drop (halfN l.length)) (i - halfN l.length) (by omega) (by omega) (by omega) sd
        have h3 := impl_tree_ev _ (l.take (halfN l.length)) (Nat.le_refl _) (by omega) st
        have h4 := pathOf_length _ (l.drop (halfN l.length)) (i - halfN l.length) (Nat.le_refl _)
        have w : wrap64 ((i : Int) - ((halfN l.length : Nat) : Int)) = ((i - halfN l.length : Nat) : Int) := (wrap_in (by omega) (by omega)).trans (by omega)
        rw [pathOf_high l i (by omega) hi]
        refine ev_if_neg (by clear w; omega) (ev_bind (split_any l.length hl) (ev_if_neg (by clear w; omega) (ev_if_pos (by clear w; omega) (ev_if_pos (by clear w; omega) ?_))))
        rw [Int.toNat_natCast, w]
        exact ev_bind h2 (ev_bind h3 (ev_if_pos (by clear w; omega) (ev_some _)))
theorem spec_path_ev (m : Nat) : ∀ (l : List ByteArray) (i : Nat), l.length ≤ m → 1 ≤ l.length → i < l.length → l.length ≤ 1000000 → (∀ x ∈ l, x.size ≤ 100000000) → Ev (fun k => spec_l06Path.f k l (i : Int)) (pathOf l i) := by
  induction m with
  | zero => intro l i hm h1; omega
  | succ m ih =>
    intro l i hm h0 hi' hl hs
    refine ev_succ ?_
    simp only [spec_l06Path.f]
    by_cases h1 : l.length ≤ 1
    · rw [pathOf_one l i h1]
      exact ev_if_pos (by omega) (ev_some _)
    · have hh := halfN_lt l.length (by omega)
      have st : ∀ x ∈ l.take (halfN l.length), x.size ≤ 100000000 := fun x hx => hs x (List.mem_of_mem_take hx)
      have sd : ∀ x ∈ l.drop (halfN l.length), x.size ≤ 100000000 := fun x hx => hs x (List.mem_of_mem_drop hx)
      have lt : (l.take (halfN l.length)).length = halfN l.length := by rw [List.length_take]; omega
      have ld : (l.drop (halfN l.length)).length = l.length - halfN l.length := List.length_drop
      by_cases hi : i < halfN l.length
      · have h2 := ih (l.take (halfN l.length)) i (by omega) (by omega) (by omega) (by omega) st
        have h3 := spec_tree_ev _ (l.drop (halfN l.length)) (Nat.le_refl _) (by omega) sd
        have h4 := pathOf_length _ (l.take (halfN l.length)) i (Nat.le_refl _)
        rw [pathOf_low l i (by omega) hi]
        refine ev_if_neg (by omega) (ev_bind (half_any l.length hl) (ev_if_pos (by omega) (ev_if_pos (by omega) (ev_if_pos (by omega) ?_))))
        rw [Int.toNat_natCast]
        exact ev_bind h2 (ev_bind h3 (ev_if_pos (by omega) (ev_some _)))
      · have h2 := ih (l.drop (halfN l.length)) (i - halfN l.length) (by omega) (by omega) (by omega) (by omega) sd
        have h3 := spec_tree_ev _ (l.take (halfN l.length)) (Nat.le_refl _) (by omega) st
        have h4 := pathOf_length _ (l.drop (halfN l.length)) (i - halfN l.length) (Nat.le_refl _)
        have w : wrap64 ((i : Int) - ((halfN l.length : Nat) : Int)) = ((i - halfN l.length : Nat) : Int) := (wrap_in (by omega) (by omega)).trans (by omega)
        rw [pathOf_high l i (by omega) hi]
        refine ev_if_neg (by clear w; omega) (ev_bind (half_any l.length hl) (ev_if_neg (by clear w; omega) (ev_if_pos (by clear w; omega) (ev_if_pos (by clear w; omega) ?_))))
        rw [Int.toNat_natCast, w]
        exact ev_bind h2 (ev_bind h3 (ev_if_pos (by clear w; omega) (ev_some _)))

/-- The hashes beside the way from a leaf up lead from the leaf to the tree's hash, and use themselves up. -/
theorem incl_path (f : Nat) : ∀ (l : List ByteArray) (i : Nat) (rest : List ByteArray) (b : Bool) (st : List ByteArray), l.length ≤ f → i < l.length →
    ∃ s, Go.Proofs.Ytamjkgbimcpfaaa.Mk.inclP (l.getD i ByteArray.empty) i l.length (pathOf l i ++ rest) b st = (treeOf l, rest, b, s) := by
  induction f with
  | zero => intro l i rest b st h h1; omega
  | succ f ih =>
    intro l i rest b st hf hi
    by_cases h : l.length ≤ 1
    · obtain rfl : i = 0 := by omega
      rw [pathOf_one l 0 h, Go.Proofs.Ytamjkgbimcpfaaa.Mk.inclP_one _ _ _ _ _ _ h, treeOf_one l (by omega)]
      exact ⟨st, rfl⟩
    · have hh := halfN_lt l.length (by omega)
      have lt : (l.take (halfN l.length)).length = halfN l.length := by rw [List.length_take]; omega
      have ld : (l.drop (halfN l.length)).length = l.length - halfN l.length := List.length_drop
      by_cases hlow : i < halfN l.length
      · rw [pathOf_low l i (by omega) hlow, List.append_assoc]
        obtain ⟨s, hs⟩ := ih (l.take (halfN l.length)) i ([treeOf (l.drop (halfN l.length))] ++ rest) b st (by omega) (by omega)
        have e : (l.take (halfN l.length)).getD i ByteArray.empty = l.getD i ByteArray.empty := by
          rw [List.getD_eq_getElem?_getD, List.getD_eq_getElem?_getD, List.getElem?_take, if_pos hlow]
        rw [lt, e, halfN_mk] at hs
        rw [Go.Proofs.Ytamjkgbimcpfaaa.Mk.inclP_low _ _ _ _ _ _ (by omega) (by rw [← halfN_mk]; exact hlow)]
        rw [halfN_mk]
        rw [hs, treeOf_more l (by omega), halfN_mk]
        exact ⟨_, rfl⟩
      · rw [pathOf_high l i (by omega) hlow, List.append_assoc]
        obtain ⟨s, hs⟩ := ih (l.drop (halfN l.length)) (i - halfN l.length) ([treeOf (l.take (halfN l.length))] ++ rest) b st (by omega) (by omega)
        have e : (l.drop (halfN l.length)).getD (i - halfN l.length) ByteArray.empty = l.getD i ByteArray.empty := by
          rw [List.getD_eq_getElem?_getD, List.getD_eq_getElem?_getD, List.getElem?_drop, Nat.add_sub_cancel' (by omega)]
        rw [ld, e, halfN_mk] at hs
        rw [Go.Proofs.Ytamjkgbimcpfaaa.Mk.inclP_high _ _ _ _ _ _ (by omega) (by rw [← halfN_mk]; exact hlow)]
        rw [halfN_mk]
        rw [hs, treeOf_more l (by omega), halfN_mk]
        exact ⟨_, rfl⟩


/-- How many hashes a proof of a leaf has. -/
def depI : Nat → Nat → Nat → Nat
  | 0, _, _ => 0
  | f + 1, i, n => if n ≤ 1 then 0 else if i < Go.Proofs.Ytamjkgbimcpfaaa.Mk.halfN n then depI f i (Go.Proofs.Ytamjkgbimcpfaaa.Mk.halfN n) + 1 else depI f (i - Go.Proofs.Ytamjkgbimcpfaaa.Mk.halfN n) (n - Go.Proofs.Ytamjkgbimcpfaaa.Mk.halfN n) + 1
/-- What a leaf and hashes (the last one first) lead to, and whether there are as many as there should be. -/
def upI (leaf : ByteArray) : Nat → Nat → Nat → List ByteArray → ByteArray × Bool
  | 0, _, _, ys => (leaf, decide (ys.length = 0))
  | _ + 1, _, n, [] => if n ≤ 1 then (leaf, true) else (⟨#[]⟩, false)
  | f + 1, i, n, z :: ys => if n ≤ 1 then (leaf, false) else if i < Go.Proofs.Ytamjkgbimcpfaaa.Mk.halfN n then (Go.Proofs.Ytamjkgbimcpfaaa.Mk.nodeOf (upI leaf f i (Go.Proofs.Ytamjkgbimcpfaaa.Mk.halfN n) ys).1 z, (upI leaf f i (Go.Proofs.Ytamjkgbimcpfaaa.Mk.halfN n) ys).2)
    else (Go.Proofs.Ytamjkgbimcpfaaa.Mk.nodeOf z (upI leaf f (i - Go.Proofs.Ytamjkgbimcpfaaa.Mk.halfN n) (n - Go.Proofs.Ytamjkgbimcpfaaa.Mk.halfN n) ys).1, (upI leaf f (i - Go.Proofs.Ytamjkgbimcpfaaa.Mk.halfN n) (n - Go.Proofs.Ytamjkgbimcpfaaa.Mk.halfN n) ys).2)
theorem upI_ok (leaf : ByteArray) (f : Nat) : ∀ (i n : Nat) (ys : List ByteArray), (upI leaf f i n ys).2 = decide (ys.length = depI f i n) := by
  induction f with
  | zero => intro i n ys; rfl
  | succ f ih =>
    intro i n ys
    cases ys with
    | nil =>
      simp only [upI, depI]
      split
      · rfl
      · split <;> rw [decide_eq_false (by simp only [List.length_nil]; omega)]
    | cons z ys =>
      simp only [upI, depI]
      split
      · rw [decide_eq_false (by simp only [List.length_cons]; omega)]
      · split
        · show (upI leaf f i _ ys).2 = _
          rw [ih, Bool.eq_iff_iff]
          simp
        · show (upI leaf f _ _ ys).2 = _
          rw [ih, Bool.eq_iff_iff]
          simp
theorem upI_size (leaf : ByteArray) (hl : leaf.size ≤ 100000000) (f : Nat) : ∀ (i n : Nat) (ys : List ByteArray), (upI leaf f i n ys).1.size ≤ 100000000 := by
  induction f with
  | zero => intro i n ys; exact hl
  | succ f ih =>
    intro i n ys
    cases ys with
    | nil =>
      simp only [upI]
      split
      · exact hl
      · exact Nat.zero_le _
    | cons z ys =>
      simp only [upI]
      split
      · exact hl
      · split <;> (show (Go.Proofs.Ytamjkgbimcpfaaa.Mk.nodeOf _ _).size ≤ _; rw [Go.Proofs.Ytamjkgbimcpfaaa.Mk.nodeOf_size]; omega)
theorem spec_up_ev (leaf : ByteArray) (hl : leaf.size ≤ 100000000) (f : Nat) : ∀ (i n : Nat) (ys : List ByteArray), n ≤ f → 1 ≤ n → n ≤ 1000000 → i < n → ys.length ≤ 1000000 → (∀ x ∈ ys, x.size ≤ 100000000) →
    Ev (fun k => spec_l06Up.f k leaf (i : Int) (n : Int) ys.reverse) (upI leaf f i n ys) := by
  induction f with
  | zero => intro i n ys h h1; omega
  | succ f ih =>
    intro i n ys hf h1 hn hi hy hx
    refine ev_succ ?_
    cases ys with
    | nil =>
      simp only [spec_l06Up.f, upI, List.reverse_nil, List.length_nil]
      by_cases h : n ≤ 1
      · rw [if_pos h]
        exact ev_if_pos (by omega) (ev_some _)
      · rw [if_neg h]
        exact ev_if_neg (by omega) (ev_if_pos (by simp) (ev_some _))
    | cons z ys =>
      have hz := hx z List.mem_cons_self
      have hx' : ∀ x ∈ ys, x.size ≤ 100000000 := fun x h => hx x (List.mem_cons_of_mem _ h)
      rw [List.length_cons] at hy
      have w : wrap64 (((ys.length + 1 : Nat) : Int) - 1) = (ys.length : Int) := (wrap_in (by omega) (by omega)).trans (by omega)
      simp only [spec_l06Up.f, upI, rev_len, w, Int.toNat_natCast, rev_take, rev_last]
      clear w
      by_cases h : n ≤ 1
      · rw [if_pos h]
        refine ev_if_pos (by omega) ?_
        rw [show (((ys.length + 1 : Nat) : Int) == 0) = false from beq_eq_false_iff_ne.mpr (by omega)]
        exact ev_some _
      · have hh := Go.Proofs.Ytamjkgbimcpfaaa.Mk.halfN_lt n (by omega)
        rw [if_neg h]
        refine ev_if_neg (by omega) (ev_if_neg (by omega) (ev_bind (half_mk n hn) (ev_if_pos (by omega) (ev_if_pos (by omega) (ev_if_pos (by omega) ?_)))))
        by_cases hlow : i < Go.Proofs.Ytamjkgbimcpfaaa.Mk.halfN n
        · rw [if_pos hlow]
          refine ev_if_pos (by omega) (ev_bind (ih i (Go.Proofs.Ytamjkgbimcpfaaa.Mk.halfN n) ys (by omega) (by omega) (by omega) hlow (by omega) hx') ?_)
          rw [node_mk _ _ (upI_size leaf hl _ _ _ _) hz]
          exact ev_some _
        · rw [if_neg hlow]
          have w1 : wrap64 ((i : Int) - ((Go.Proofs.Ytamjkgbimcpfaaa.Mk.halfN n : Nat) : Int)) = ((i - Go.Proofs.Ytamjkgbimcpfaaa.Mk.halfN n : Nat) : Int) := (wrap_in (by omega) (by omega)).trans (by omega)
          have w2 : wrap64 ((n : Int) - ((Go.Proofs.Ytamjkgbimcpfaaa.Mk.halfN n : Nat) : Int)) = ((n - Go.Proofs.Ytamjkgbimcpfaaa.Mk.halfN n : Nat) : Int) := (wrap_in (by omega) (by omega)).trans (by omega)
          rw [w1, w2]
          clear w1 w2
          refine ev_if_neg (by omega) (ev_bind (ih (i - Go.Proofs.Ytamjkgbimcpfaaa.Mk.halfN n) (n - Go.Proofs.Ytamjkgbimcpfaaa.Mk.halfN n) ys (by omega) (by omega) (by omega) (by omega) (by omega) hx') ?_)
          rw [node_mk _ _ hz (upI_size leaf hl _ _ _ _)]
          exact ev_some _
theorem incl_just (leaf : ByteArray) (f : Nat) : ∀ (i n : Nat) (ys rest : List ByteArray) (b : Bool) (st : List ByteArray), n ≤ f → ys.length = depI f i n →
    ∃ s, Go.Proofs.Ytamjkgbimcpfaaa.Mk.inclP leaf i n (ys.reverse ++ rest) b st = ((upI leaf f i n ys).1, rest, b, s) := by
  induction f with
  | zero =>
    intro i n ys rest b st hf hy
    obtain rfl := List.eq_nil_of_length_eq_zero hy
    exact ⟨st, Go.Proofs.Ytamjkgbimcpfaaa.Mk.inclP_one _ _ _ _ _ _ (by omega)⟩
  | succ f ih =>
    intro i n ys rest b st hf hy
    simp only [depI] at hy
    by_cases h : n ≤ 1
    · rw [if_pos h] at hy
      obtain rfl := List.eq_nil_of_length_eq_zero hy
      refine ⟨st, ?_⟩
      rw [Go.Proofs.Ytamjkgbimcpfaaa.Mk.inclP_one _ _ _ _ _ _ h]
      simp only [upI, if_pos h]
      rfl
    · rw [if_neg h] at hy
      have hh := Go.Proofs.Ytamjkgbimcpfaaa.Mk.halfN_lt n (by omega)
      cases ys with
      | nil => exfalso; split at hy <;> (simp only [List.length_nil] at hy; omega)
      | cons z ys =>
        have e : (z :: ys).reverse ++ rest = ys.reverse ++ (z :: rest) := by simp
        rw [List.length_cons] at hy
        simp only [upI, if_neg h]
        rw [e]
        by_cases hlow : i < Go.Proofs.Ytamjkgbimcpfaaa.Mk.halfN n
        · rw [if_pos hlow] at hy
          obtain ⟨s, hs⟩ := ih i (Go.Proofs.Ytamjkgbimcpfaaa.Mk.halfN n) ys (z :: rest) b st (by omega) (by omega)
          rw [Go.Proofs.Ytamjkgbimcpfaaa.Mk.inclP_low _ _ _ _ _ _ (by omega) hlow, if_pos hlow, hs]
          exact ⟨_, rfl⟩
        · rw [if_neg hlow] at hy
          obtain ⟨s, hs⟩ := ih (i - Go.Proofs.Ytamjkgbimcpfaaa.Mk.halfN n) (n - Go.Proofs.Ytamjkgbimcpfaaa.Mk.halfN n) ys (z :: rest) b st (by omega) (by omega)
          rw [Go.Proofs.Ytamjkgbimcpfaaa.Mk.inclP_high _ _ _ _ _ _ (by omega) hlow, if_neg hlow, hs]
          exact ⟨_, rfl⟩
theorem next_bad (xs : List ByteArray) : (Go.Proofs.Ytamjkgbimcpfaaa.Mk.nextP xs true).2.2 = true := by cases xs <;> rfl
theorem incl_less (leaf : ByteArray) (f : Nat) : ∀ (i n : Nat) (xs : List ByteArray) (b : Bool) (st : List ByteArray), n ≤ f → xs.length < depI f i n →
    (Go.Proofs.Ytamjkgbimcpfaaa.Mk.inclP leaf i n xs b st).2.2.1 = true := by
  induction f with
  | zero => intro i n xs b st hf h; exact absurd h (Nat.not_lt_zero _)
  | succ f ih =>
    intro i n xs b st hf hy
    simp only [depI] at hy
    by_cases h : n ≤ 1
    · rw [if_pos h] at hy; omega
    · rw [if_neg h] at hy
      have hh := Go.Proofs.Ytamjkgbimcpfaaa.Mk.halfN_lt n (by omega)
      by_cases hlow : i < Go.Proofs.Ytamjkgbimcpfaaa.Mk.halfN n
      · rw [if_pos hlow] at hy
        rw [Go.Proofs.Ytamjkgbimcpfaaa.Mk.inclP_low _ _ _ _ _ _ (by omega) hlow]
        show (Go.Proofs.Ytamjkgbimcpfaaa.Mk.nextP _ _).2.2 = true
        by_cases he : xs.length = depI f i (Go.Proofs.Ytamjkgbimcpfaaa.Mk.halfN n)
        · obtain ⟨s, hs⟩ := incl_just leaf f i (Go.Proofs.Ytamjkgbimcpfaaa.Mk.halfN n) xs.reverse [] b st (by omega) (by simpa using he)
          rw [List.reverse_reverse, List.append_nil] at hs
          rw [hs]
          rfl
        · rw [ih i (Go.Proofs.Ytamjkgbimcpfaaa.Mk.halfN n) xs b st (by omega) (by omega)]
          exact next_bad _
      · rw [if_neg hlow] at hy
        rw [Go.Proofs.Ytamjkgbimcpfaaa.Mk.inclP_high _ _ _ _ _ _ (by omega) hlow]
        show (Go.Proofs.Ytamjkgbimcpfaaa.Mk.nextP _ _).2.2 = true
        by_cases he : xs.length = depI f (i - Go.Proofs.Ytamjkgbimcpfaaa.Mk.halfN n) (n - Go.Proofs.Ytamjkgbimcpfaaa.Mk.halfN n)
        · obtain ⟨s, hs⟩ := incl_just leaf f (i - Go.Proofs.Ytamjkgbimcpfaaa.Mk.halfN n) (n - Go.Proofs.Ytamjkgbimcpfaaa.Mk.halfN n) xs.reverse [] b st (by omega) (by simpa using he)
          rw [List.reverse_reverse, List.append_nil] at hs
          rw [hs]
          rfl
        · rw [ih (i - Go.Proofs.Ytamjkgbimcpfaaa.Mk.halfN n) (n - Go.Proofs.Ytamjkgbimcpfaaa.Mk.halfN n) xs b st (by omega) (by omega)]
          exact next_bad _
/-- Just as many as there should be: the hash; else a code. -/
theorem incl_all (leaf : ByteArray) (i n : Nat) (l : List ByteArray) : ∃ s, impl_inclusionRoot.iroot (Go.Proofs.Ytamjkgbimcpfaaa.Mk.inclP leaf i n l false []) = if l.length = depI n i n then ((upI leaf n i n l.reverse).1, s, 0) else (⟨#[]⟩, [], 10) := by
  rcases Nat.lt_trichotomy l.length (depI n i n) with h | h | h
  · refine ⟨[], ?_⟩
    rw [if_neg (by omega), impl_inclusionRoot.iroot, if_pos (.inl (incl_less leaf n i n l false [] (Nat.le_refl _) h))]
  · obtain ⟨s, hs⟩ := incl_just leaf n i n l.reverse [] false [] (Nat.le_refl _) (by simpa using h)
    rw [List.reverse_reverse, List.append_nil] at hs
    refine ⟨s, ?_⟩
    rw [if_pos h, hs, impl_inclusionRoot.iroot, if_neg (by simp)]
  · obtain ⟨s, hs⟩ := incl_just leaf n i n (l.take (depI n i n)).reverse (l.drop (depI n i n)) false [] (Nat.le_refl _) (by simp; omega)
    rw [List.reverse_reverse, List.take_append_drop] at hs
    refine ⟨[], ?_⟩
    rw [if_neg (by omega), hs, impl_inclusionRoot.iroot, if_pos (.inr (by simp; omega))]

theorem within_is (a b c : Int) : impl_within.f a b c = some (decide (b ≤ a ∧ a ≤ c)) := by
  unfold impl_within.f
  split <;> simp only [Option.some.injEq] <;> rw [Bool.eq_iff_iff] <;> simp <;> omega
theorem in_is (a b c : Int) : spec_l01In.f a b c = some (decide (b ≤ a ∧ a ≤ c)) := by
  unfold spec_l01In.f
  split <;> simp only [Option.some.injEq] <;> rw [Bool.eq_iff_iff] <;> simp <;> omega

theorem isText_one (h : ByteArray) : impl_isText.f [h] = some (decide ((h.size : Int) ≤ 65536)) := by
  unfold impl_isText.f impl_isText.p
  simp only [List.any_cons, List.any_nil, Bool.or_false, Option.some.injEq]
  rw [Bool.eq_iff_iff]
  simp
theorem isHash_one (h : ByteArray) : impl_isHash.f [h] = some (decide ((h.size : Int) = 32)) := by
  unfold impl_isHash.f impl_isHash.p
  simp only [List.any_cons, List.any_nil, Bool.or_false, Option.some.injEq]
  rw [Bool.eq_iff_iff]
  simp

/-- All are of a hash's size. -/
def allH (l : List ByteArray) : Bool := !(l.any impl_isHash.p)
theorem isHash_eq (l : List ByteArray) : impl_isHash.f l = some (allH l) := rfl
theorem allH_mem (l : List ByteArray) (h : allH l = true) : ∀ x ∈ l, x.size = 32 := by
  intro x hx
  unfold allH at h
  rw [Bool.not_eq_true', List.any_eq_false] at h
  have := h x hx
  unfold impl_isHash.p at this
  simp at this
  omega
theorem hashes_from (l : List ByteArray) (hl : l.length ≤ 1000000) (d : Nat) : ∀ i : Nat, i + d = l.length → Ev (fun k => spec_l06Hashes.l0 k l (i : Int)) (allH (l.drop i)) := by
  induction d with
  | zero =>
    intro i hi
    rw [List.drop_eq_nil_of_le (by omega)]
    refine ev_succ ?_
    simp only [spec_l06Hashes.l0]
    exact ev_if_neg (by omega) (ev_some _)
  | succ d ih =>
    intro i hi
    have w2 : Aside0 (wrap64 ((i : Int) + 1) = ((i + 1 : Nat) : Int)) := ⟨(wrap_in (by omega) (by omega)).trans (by omega)⟩
    have hm : rdOf ByteArray.empty l (i : Int) = l[i]'(by omega) := by
      unfold rdOf
      rw [Int.toNat_natCast, List.getD_eq_getElem?_getD, List.getElem?_eq_getElem (by omega), Option.getD_some]
    have he : allH (l.drop i) = (decide ((l[i]'(by omega)).size = 32) && allH (l.drop (i + 1))) := by
      rw [List.drop_eq_getElem_cons (by omega)]
      unfold allH impl_isHash.p
      rw [List.any_cons, Bool.not_or]
      congr 1
      rw [Bool.eq_iff_iff]
      simp
      omega
    rw [he]
    refine ev_succ ?_
    simp only [spec_l06Hashes.l0, w2.out, hm]
    refine ev_if_pos (by omega) (ev_if_pos (by omega) ?_)
    by_cases h : (l[i]'(by omega)).size = 32
    · rw [decide_eq_true h, Bool.true_and]
      exact ev_if_pos (by omega) (ih (i + 1) (by omega))
    · rw [decide_eq_false h, Bool.false_and]
      exact ev_if_neg (by omega) (ev_some _)
theorem hashes_ev (l : List ByteArray) (hl : l.length ≤ 1000000) : Ev (fun k => spec_l06Hashes.f k l) (decide (l.length ≤ 64) && allH l) := by
  unfold spec_l06Hashes.f
  by_cases h : (l.length : Int) > 64
  · rw [decide_eq_false (by omega), Bool.false_and]
    exact ev_if_pos h (ev_some _)
  · rw [decide_eq_true (by omega), Bool.true_and]
    have := hashes_from l hl l.length 0 (by omega)
    exact ev_if_neg h this

theorem proof_code (l : List ByteArray) (x : ByteArray) (k : Nat) : impl_proofCode.f (k + 1) l [x] = some (if (l.length : Int) ≤ 4096 ∧ (x.size : Int) ≤ 65536 then (if (x.size : Int) = 32 ∧ (l.length : Int) ≤ 64 ∧ allH l = true then 0 else 1) else 2) := by
  unfold impl_proofCode.f impl_isList_string.f
  simp only [Option.bind_some, isText_one, impl_proofCode.j0, isHash_one, isHash_eq l]
  by_cases h1 : (l.length : Int) ≤ 4096 <;> by_cases h2 : (x.size : Int) ≤ 65536 <;> by_cases h3 : (x.size : Int) = 32 <;> by_cases h4 : (l.length : Int) ≤ 64 <;> cases hH : allH l <;> simp [h1, h2, h3, h4] <;> omega

theorem both_InclusionRoot (x : ByteArray) (a n : Int) (l : List ByteArray) (hl : l.length ≤ 1048576) :
    ∃ (r : ByteArray) (e : Int), Ev (fun k => spec_InclusionRoot.f k x a n l) (r, e) ∧ Ev (fun k => impl_InclusionRoot.f k x a n l) (r, e) := by
  unfold spec_InclusionRoot.f impl_InclusionRoot.f
  by_cases h1 : (x.size : Int) > 65536
  · refine ⟨⟨#[]⟩, 2, ev_if_pos h1 (ev_some _), ?_⟩
    refine ev_succ ?_
    simp only [proof_code]
    rw [if_neg (by omega)]
    simp only [Option.bind_some]
    exact ev_if_neg (by omega) (ev_some _)
  · by_cases h2 : (l.length : Int) > 4096
    · refine ⟨⟨#[]⟩, 2, ev_if_neg h1 (ev_if_pos h2 (ev_some _)), ?_⟩
      refine ev_succ ?_
      simp only [proof_code]
      rw [if_neg (by omega)]
      simp only [Option.bind_some]
      exact ev_if_neg (by omega) (ev_some _)
    · have hs := hashes_ev l (by omega)
      by_cases hc : (x.size : Int) = 32 ∧ (l.length : Int) ≤ 64 ∧ allH l = true
      · obtain ⟨c1, c2, c3⟩ := hc
        have hb : (decide (l.length ≤ 64) && allH l) = true := by rw [c3, decide_eq_true (by omega)]; rfl
        have hsz : ∀ y ∈ l, y.size ≤ 100000000 := fun y hy => by have := allH_mem l c3 y hy; omega
        rw [hb] at hs
        have impl_ok : ∀ (r : ByteArray × Int), (impl_inclusionRoot.f x a n l).bind (fun bt => some (bt.1, bt.2.2)) = some r → Ev (fun k => (impl_proofCode.f k l [x]).bind fun t142 => (if t142 = 0 then ((impl_inclusionRoot.f x a n l).bind fun bt143 => (some (bt143.1, bt143.2.2))) else (some ((⟨#[]⟩ : ByteArray), t142)))) r := by
          intro r hr
          refine ev_succ ?_
          simp only [proof_code]
          rw [if_pos (by omega), if_pos ⟨c1, c2, c3⟩]
          show Ev (fun k => _) _
          simp only [Option.bind_some]
          refine ev_if_pos (by first | rfl | trivial) ?_
          rw [hr]
          exact ev_some _
        have hf : impl_inclusionRoot.f x a n l = some (if 1 ≤ n ∧ n ≤ 64 ∧ 0 ≤ a ∧ a ≤ n - 1 then impl_inclusionRoot.iroot (Go.Proofs.Ytamjkgbimcpfaaa.Mk.inclP x a.toNat n.toNat l false []) else (⟨#[]⟩, [], 4)) := by
          unfold impl_inclusionRoot.f
          rw [if_pos ⟨by omega, by rw [List.all_eq_true]; intro y hy; exact decide_eq_true (hsz y hy)⟩]
        by_cases hin : 1 ≤ n ∧ n ≤ 64 ∧ 0 ≤ a ∧ a ≤ n - 1
        · obtain ⟨g1, g2, g3, g4⟩ := hin
          obtain ⟨i, rfl⟩ := Int.eq_ofNat_of_zero_le g3
          obtain ⟨m, rfl⟩ := Int.eq_ofNat_of_zero_le (show 0 ≤ n by omega)
          have w : wrap64 ((m : Int) - 1) = (m : Int) - 1 := wrap_in (by omega) (by omega)
          have hup := spec_up_ev x (by omega) m i m l.reverse (Nat.le_refl _) (by omega) (by omega) (by omega) (by simp; omega) (fun y hy => hsz y (by simpa using hy))
          rw [List.reverse_reverse] at hup
          obtain ⟨s, hs2⟩ := incl_all x i m l
          rw [if_pos ⟨g1, g2, g3, g4⟩, Int.toNat_natCast, Int.toNat_natCast, hs2] at hf
          have hok := upI_ok x m i m l.reverse
          rw [List.length_reverse] at hok
          by_cases hd : l.length = depI m i m
          · rw [decide_eq_true hd] at hok
            rw [if_pos hd] at hf
            refine ⟨(upI x m i m l.reverse).1, 0, ?_, impl_ok _ (by rw [hf]; rfl)⟩
            refine ev_if_neg h1 (ev_if_neg h2 (ev_bind hs (ev_if_pos (by first | rfl | trivial) (ev_succ ?_))))
            simp only [spec_InclusionRoot.j0, in_is, Option.bind_some, w]
            refine ev_if_neg (by simp; omega) (ev_if_pos (decide_eq_true ⟨g1, g2⟩) (ev_succ ?_))
            simp only [spec_InclusionRoot.j1]
            exact ev_if_neg (by simp; omega) (ev_bind hup (ev_if_pos hok (ev_some _)))
          · rw [decide_eq_false hd] at hok
            rw [if_neg hd] at hf
            refine ⟨⟨#[]⟩, 10, ?_, impl_ok _ (by rw [hf]; rfl)⟩
            refine ev_if_neg h1 (ev_if_neg h2 (ev_bind hs (ev_if_pos (by first | rfl | trivial) (ev_succ ?_))))
            simp only [spec_InclusionRoot.j0, in_is, Option.bind_some, w]
            refine ev_if_neg (by simp; omega) (ev_if_pos (decide_eq_true ⟨g1, g2⟩) (ev_succ ?_))
            simp only [spec_InclusionRoot.j1]
            exact ev_if_neg (by simp; omega) (ev_bind hup (ev_if_neg (by rw [hok]; simp) (ev_some _)))
        · rw [if_neg hin] at hf
          refine ⟨⟨#[]⟩, 4, ?_, impl_ok _ (by rw [hf]; rfl)⟩
          refine ev_if_neg h1 (ev_if_neg h2 (ev_bind hs (ev_if_pos (by first | rfl | trivial) (ev_succ ?_))))
          simp only [spec_InclusionRoot.j0, in_is, Option.bind_some]
          by_cases g : 1 ≤ n ∧ n ≤ 64
          · have w : wrap64 (n - 1) = n - 1 := wrap_in (by omega) (by omega)
            simp only [w]
            refine ev_if_neg (by simp; omega) (ev_if_pos (decide_eq_true g) (ev_succ ?_))
            simp only [spec_InclusionRoot.j1]
            exact ev_if_pos (by rw [decide_eq_false (fun h => hin ⟨g.1, g.2, h.1, h.2⟩)]; rfl) (ev_some _)
          · refine ev_if_neg (by simp; omega) (ev_if_neg (by simp only [decide_eq_true_eq]; exact g) (ev_succ ?_))
            simp only [spec_InclusionRoot.j1]
            exact ev_if_pos (by first | rfl | trivial) (ev_some _)
      · refine ⟨⟨#[]⟩, 1, ?_, ?_⟩
        · refine ev_if_neg h1 (ev_if_neg h2 (ev_bind hs ?_))
          cases hb : (decide (l.length ≤ 64) && allH l)
          · refine ev_if_neg (by simp) (ev_succ ?_)
            simp only [spec_InclusionRoot.j0]
            exact ev_if_pos (by first | rfl | trivial) (ev_some _)
          · rw [Bool.and_eq_true, decide_eq_true_eq] at hb
            refine ev_if_pos (by first | rfl | trivial) (ev_succ ?_)
            simp only [spec_InclusionRoot.j0]
            exact ev_if_pos (bne_iff_ne.mpr (fun h => hc ⟨h, by omega, hb.2⟩)) (ev_some _)
        · refine ev_succ ?_
          simp only [proof_code]
          rw [if_pos (by omega), if_neg hc]
          simp only [Option.bind_some]
          exact ev_if_neg (by omega) (ev_some _)

/-- What a drawn source is: how far it has been read, and a seed. -/
def SrcOK (c : List Int) (a b : Int) (n : Nat) : Prop := 0 ≤ a ∧ a ≤ (n : Int) ∧ 0 ≤ b ∧ b < 2147483648
/-- One more byte. -/
theorem byte_src (c : List Int) (hc : ∀ x ∈ c, 0 ≤ x ∧ x < 256) (a b : Int) (n : Nat) (hn : n ≤ 10000) (h : SrcOK c a b n) : ∃ r a' b', spec_l00Src_byte.f c a b = some (r, a', b') ∧ 0 ≤ r ∧ r < 256 ∧ SrcOK c a' b' (n + 1) := by
  obtain ⟨h1, h2, h3, h4⟩ := h
  unfold spec_l00Src_byte.f
  rw [if_pos ⟨h1, by omega, h3, h4⟩]
  by_cases g : a + 1 ≤ (c.length : Int)
  · have hr : 0 ≤ rd c a ∧ rd c a < 256 := by
      obtain ⟨i, rfl⟩ := Int.eq_ofNat_of_zero_le h1
      unfold rd
      rw [Int.toNat_natCast, List.getD_eq_getElem?_getD, List.getElem?_eq_getElem (by omega), Option.getD_some]
      exact hc _ (List.getElem_mem _)
    rw [if_pos g, if_pos hr]
    exact ⟨_, _, _, rfl, hr.1, hr.2, by omega, by omega, by omega, by omega⟩
  · rw [if_neg g]
    by_cases g2 : 3000 < a + 1
    · rw [if_pos g2]
      exact ⟨_, _, _, rfl, by omega, by omega, by omega, by omega, h3, h4⟩
    · rw [if_neg g2]
      exact ⟨_, _, _, rfl, by omega, by omega, by omega, by omega, by omega, by omega⟩
/-- One of 0 to m - 1. -/
theorem next_src (c : List Int) (hc : ∀ x ∈ c, 0 ≤ x ∧ x < 256) (a b : Int) (n : Nat) (hn : n ≤ 9000) (m : Int) (hm1 : 1 ≤ m) (hm : m ≤ 256) (h : SrcOK c a b n) : ∃ r a' b', spec_l00Src_next.f c a b m = some (r, a', b') ∧ 0 ≤ r ∧ r < m ∧ SrcOK c a' b' (n + 1) := by
  unfold spec_l00Src_next.f
  by_cases g : m ≤ 1
  · rw [if_pos g]
    obtain ⟨h1, h2, h3, h4⟩ := h
    exact ⟨0, a, b, rfl, Int.le_refl _, by omega, h1, by omega, h3, h4⟩
  · rw [if_neg g, if_pos hm]
    obtain ⟨r, a', b', e, r0, r1, h'⟩ := byte_src c hc a b n (by omega) h
    rw [e]
    simp only [Option.bind_some]
    rw [if_neg (by omega)]
    have ht : Int.tmod r m = r % m := Int.tmod_eq_emod_of_nonneg r0
    rw [ht]
    exact ⟨_, _, _, rfl, Int.emod_nonneg _ (by omega), Int.emod_lt_of_pos _ (by omega), h'⟩
theorem chance_src (c : List Int) (hc : ∀ x ∈ c, 0 ≤ x ∧ x < 256) (a b : Int) (n : Nat) (hn : n ≤ 9000) (m : Int) (hm1 : 1 ≤ m) (hm : m ≤ 256) (h : SrcOK c a b n) : ∃ r a' b', spec_l00Src_chance.f c a b m = some (r, a', b') ∧ SrcOK c a' b' (n + 1) := by
  obtain ⟨r, a', b', e, r0, r1, h'⟩ := next_src c hc a b n hn m hm1 hm h
  unfold spec_l00Src_chance.f
  rw [e]
  exact ⟨_, _, _, rfl, h'⟩


theorem leaf_size (s : ByteArray) (hs : s.size ≤ 100000000) : ∃ r, spec_l06Leaf.f s = some r ∧ r.size = 32 := by
  unfold spec_l06Leaf.f
  simp only [Option.bind_some]
  rw [if_pos (by show 1 + _ < _; omega), lhash_some _ (fun x hx => by
    simp only [List.mem_append, List.mem_cons, List.not_mem_nil, or_false] at hx
    rcases hx with rfl | h
    · omega
    · exact bytesOf_range s x h) (by rw [List.length_append, bytesOf_length]; show 1 + _ ≤ _; omega)]
  exact ⟨_, rfl, Go.Proofs.Ytamjkgbimcpfaaa.SHash.sha_size _⟩
/-- All are hashes. -/
def All32 (l : List ByteArray) : Prop := ∀ x ∈ l, x.size = 32
theorem All32.snoc {l : List ByteArray} {x : ByteArray} (h : All32 l) (hx : x.size = 32) : All32 (l ++ [x]) := by
  intro y hy
  rcases List.mem_append.1 hy with h1 | h1
  · exact h y h1
  · rw [List.mem_singleton.1 h1]; exact hx
theorem leaves_l1 (c : List Int) (hc : ∀ x ∈ c, 0 ≤ x ∧ x < 256) (d : Nat) : ∀ (l : List ByteArray) (a b : Int) (n : Nat), All32 l → 66 ≤ l.length + d → l.length ≤ 1000 → n + d ≤ 8000 → SrcOK c a b n →
    ∃ r a' b', Ev (fun k => spec_l00Src_leaves.l1 k l c a b) (r, a', b') ∧ All32 r ∧ r.length ≤ 2000 := by
  induction d with
  | zero =>
    intro l a b n hl hd hb hn hs
    obtain ⟨r, a', b', e, r0, r1, h'⟩ := next_src c hc a b n (by omega) 2 (by omega) (by omega) hs
    have w : wrap64 (64 + r) = 64 + r := wrap_in (by omega) (by omega)
    refine ⟨l, a', b', ev_succ ?_, hl, by omega⟩
    simp only [spec_l00Src_leaves.l1, e, Option.bind_some, w]
    exact ev_if_neg (by omega) (ev_some _)
  | succ d ih =>
    intro l a b n hl hd hb hn hs
    obtain ⟨r, a', b', e, r0, r1, h'⟩ := next_src c hc a b n (by omega) 2 (by omega) (by omega) hs
    have w : wrap64 (64 + r) = 64 + r := wrap_in (by omega) (by omega)
    by_cases hlen : (l.length : Int) < 64 + r
    · cases l with
      | nil =>
        obtain ⟨x, ex, sx⟩ := leaf_size (⟨#[]⟩ : ByteArray) (Nat.zero_le _)
        obtain ⟨r2, a2, b2, e2, hr2, hl2⟩ := ih [x] a' b' (n + 1) (All32.snoc (l := []) (fun y hy => by simp at hy) sx) (by simp only [List.length_cons, List.length_nil] at hd ⊢; omega) (by simp) (by omega) h'
        refine ⟨r2, a2, b2, ev_succ ?_, hr2, hl2⟩
        simp only [spec_l00Src_leaves.l1, e, Option.bind_some, w]
        refine ev_if_pos hlen (ev_if_pos (by simp [mn]) (ev_if_pos (by simp [mn]) (ev_if_pos (by simp) ?_)))
        refine ev_if_pos (by simp) ?_
        rw [ex]
        simp only [Option.bind_some]
        exact ev_if_pos (by simp) e2
      | cons x t =>
        have hx : x.size = 32 := hl x List.mem_cons_self
        obtain ⟨r2, a2, b2, e2, hr2, hl2⟩ := ih (x :: t ++ [x]) a' b' (n + 1) (All32.snoc hl hx) (by simp only [List.length_append, List.length_cons, List.length_nil] at hd ⊢; omega) (by simp only [List.length_append, List.length_cons, List.length_nil] at hlen ⊢; omega) (by omega) h'
        refine ⟨r2, a2, b2, ev_succ ?_, hr2, hl2⟩
        simp only [spec_l00Src_leaves.l1, e, Option.bind_some, w]
        have hmn : mn 1 ((x :: t).length : Int) = 1 := by
          have h1 : 1 ≤ (x :: t).length := by simp
          generalize (x :: t).length = q at h1 ⊢
          unfold mn
          split <;> omega
        simp only [hmn]
        refine ev_if_pos hlen (ev_if_pos (by omega) (ev_if_pos (by simp only [List.length_cons]; omega) (ev_if_pos (by simp only [List.length_cons] at hb ⊢; simp; omega) ?_)))
        refine ev_if_neg (by simp; omega) ?_
        exact e2
    · refine ⟨l, a', b', ev_succ ?_, hl, by omega⟩
      simp only [spec_l00Src_leaves.l1, e, Option.bind_some, w]
      exact ev_if_neg hlen (ev_some _)
theorem leaves_l0 (c : List Int) (hc : ∀ x ∈ c, 0 ≤ x ∧ x < 256) (d : Nat) : ∀ (l : List ByteArray) (i a b : Int) (n : Nat), i ≤ (d : Int) → All32 l → l.length + d ≤ 900 → n + d ≤ 7000 → SrcOK c a b n →
    ∃ r a' b', Ev (fun k => spec_l00Src_leaves.l0 k l i c a b) (r, a', b') ∧ All32 r ∧ r.length ≤ 2000 := by
  have done_ : ∀ (l : List ByteArray) (i a b : Int) (n : Nat), ¬ i > 0 → All32 l → l.length ≤ 900 → n ≤ 7000 → SrcOK c a b n → ∃ r a' b', Ev (fun k => spec_l00Src_leaves.l0 k l i c a b) (r, a', b') ∧ All32 r ∧ r.length ≤ 2000 := by
    intro l i a b n hi hl hb hn hs
    obtain ⟨q, a', b', e, h'⟩ := chance_src c hc a b n (by omega) 40 (by omega) (by omega) hs
    cases q with
    | false =>
      refine ⟨l, a', b', ev_succ ?_, hl, by omega⟩
      simp only [spec_l00Src_leaves.l0, e, Option.bind_some]
      exact ev_if_neg hi (ev_if_neg (by simp) (ev_some _))
    | true =>
      obtain ⟨r2, a2, b2, e2, hr2, hl2⟩ := leaves_l1 c hc 66 l a' b' (n + 1) hl (by omega) (by omega) (by omega) h'
      refine ⟨r2, a2, b2, ev_succ ?_, hr2, hl2⟩
      simp only [spec_l00Src_leaves.l0, e, Option.bind_some]
      exact ev_if_neg hi (ev_if_pos (by first | rfl | trivial) e2)
  induction d with
  | zero => intro l i a b n hi hl hb hn hs; exact done_ l i a b n (by omega) hl (by omega) (by omega) hs
  | succ d ih =>
    intro l i a b n hi hl hb hn hs
    by_cases g : i > 0
    · obtain ⟨q, a', b', e, q0, q1, h'⟩ := next_src c hc a b n (by omega) 3 (by omega) (by omega) hs
      obtain ⟨x, ex, sx⟩ := leaf_size (strOfNums [i % 256, q % 256]) (by rw [size_strOfNums]; simp)
      have w : wrap64 (i - 1) = i - 1 := wrap_in (by omega) (by omega)
      obtain ⟨r2, a2, b2, e2, hr2, hl2⟩ := ih (l ++ [x]) (i - 1) a' b' (n + 1) (by omega) (hl.snoc sx) (by simp only [List.length_append, List.length_cons, List.length_nil]; omega) (by omega) h'
      refine ⟨r2, a2, b2, ev_succ ?_, hr2, hl2⟩
      simp only [spec_l00Src_leaves.l0, e, Option.bind_some, ex, w]
      exact ev_if_pos g (ev_if_pos (by omega) e2)
    · exact done_ l i a b n g hl (by omega) (by omega) hs
theorem src_new (c : List Int) : SrcOK c 0 ((c.length : Int) % 1000) 0 := by
  generalize (c.length : Int) = q
  have h1 := Int.emod_nonneg q (b := 1000) (by omega)
  have h2 := Int.emod_lt_of_pos q (b := 1000) (by omega)
  generalize q % 1000 = z at h1 h2 ⊢
  exact ⟨Int.le_refl _, Int.le_refl _, h1, by omega⟩
theorem source_some (c : List Int) : ∃ z, spec_l00Source.f c = some (c, 0, z) ∧ SrcOK c 0 z 0 := ⟨_, rfl, src_new c⟩
theorem leaves_ev (c : List Int) (hc : ∀ x ∈ c, 0 ≤ x ∧ x < 256) (a b : Int) (h : SrcOK c a b 0) : ∃ r a' b', Ev (fun k => spec_l00Src_leaves.f k c a b) (r, a', b') ∧ All32 r ∧ r.length ≤ 2000 := by
  obtain ⟨q, a1, b1, e1, q0, q1, h1⟩ := next_src c hc a b 0 (by omega) 3 (by omega) (by omega) h
  have hrd : 1 ≤ rd [4, 10, 20] q ∧ rd [4, 10, 20] q ≤ 20 := by
    have : q = 0 ∨ q = 1 ∨ q = 2 := by omega
    rcases this with rfl | rfl | rfl <;> simp [rd]
  obtain ⟨q2, a2, b2, e2, p0, p1, h2⟩ := next_src c hc a1 b1 1 (by omega) (rd [4, 10, 20] q) hrd.1 (by omega) h1
  obtain ⟨r, a3, b3, e3, hr, hl3⟩ := leaves_l0 c hc 20 [] q2 a2 b2 2 (by omega) (fun y hy => by simp at hy) (by simp) (by omega) h2
  refine ⟨r, a3, b3, ?_, hr, hl3⟩
  unfold spec_l00Src_leaves.f
  rw [e1]
  simp only [Option.bind_some, e2]
  exact ev_if_pos q0 (ev_if_pos (by simpa using q1) e3)
/-- A drawn log has at most 40 leaves, and each is a hash. -/
theorem leavesOf_ev (c : List Int) (hc : ∀ x ∈ c, 0 ≤ x ∧ x < 256) : ∃ r, Ev (fun k => spec_LeavesOf.f k c) r ∧ All32 r ∧ r.length ≤ 40 := by
  obtain ⟨z, ez, hs⟩ := source_some c
  obtain ⟨r, a3, b3, e3, hr, hl3⟩ := leaves_ev c hc 0 z hs
  have hmn : 0 ≤ mn 40 (r.length : Int) ∧ mn 40 (r.length : Int) ≤ (r.length : Int) ∧ mn 40 (r.length : Int) ≤ 40 := by unfold mn; split <;> omega
  refine ⟨r.take (mn 40 (r.length : Int)).toNat, ?_, fun y hy => hr y (List.mem_of_mem_take hy), by rw [List.length_take]; omega⟩
  unfold spec_LeavesOf.f
  rw [ez]
  simp only [Option.bind_some]
  exact ev_bind e3 (ev_if_pos hmn.1 (ev_if_pos hmn.2.1 (ev_some _)))
theorem at_some (l : List Int) (hc : ∀ x ∈ l, 0 ≤ x ∧ x < 256) (i : Int) (hi : 0 ≤ i ∧ i ≤ 1000) (n : Int) (hn : n ≤ 1000000) (hl : l.length ≤ 1048576) : ∃ r, laws_at.f l i n = some r ∧ 0 ≤ r ∧ (1 ≤ n → r < n) := by
  unfold laws_at.f
  by_cases h : n ≤ 1
  · rw [if_pos h]; exact ⟨0, rfl, Int.le_refl _, fun _ => by omega⟩
  · rw [if_neg h]
    by_cases h0 : (l.length : Int) = 0
    · have w : wrap64 (i * 7) = i * 7 := wrap_in (by omega) (by omega)
      have ht : Int.tmod (i * 7) n = i * 7 % n := Int.tmod_eq_emod_of_nonneg (by omega)
      rw [if_pos h0, if_neg (by omega), w, ht]
      exact ⟨_, rfl, Int.emod_nonneg _ (by omega), fun _ => Int.emod_lt_of_pos _ (by omega)⟩
    · rw [if_neg h0]
      have hlp : 0 < (l.length : Int) := by omega
      have byte : ∀ j : Int, 0 ≤ rd l (j % (l.length : Int)) ∧ rd l (j % (l.length : Int)) < 256 := fun j => by
        have g0 : 0 ≤ j % (l.length : Int) := Int.emod_nonneg _ h0
        have g1 : j % (l.length : Int) < (l.length : Int) := Int.emod_lt_of_pos _ hlp
        obtain ⟨m, hm⟩ := Int.eq_ofNat_of_zero_le g0
        rw [hm] at g1 ⊢
        unfold rd
        rw [Int.toNat_natCast, List.getD_eq_getElem?_getD, List.getElem?_eq_getElem (by omega), Option.getD_some]
        exact hc _ (List.getElem_mem _)
      have w1 : wrap64 (i + 1) = i + 1 := wrap_in (by omega) (by omega)
      have t1 : Int.tmod i (l.length : Int) = i % (l.length : Int) := Int.tmod_eq_emod_of_nonneg hi.1
      have t2 : Int.tmod (i + 1) (l.length : Int) = (i + 1) % (l.length : Int) := Int.tmod_eq_emod_of_nonneg (by omega)
      have t3 : Int.tdiv i (l.length : Int) = i / (l.length : Int) := Int.tdiv_eq_ediv_of_nonneg hi.1
      have d0 : 0 ≤ i / (l.length : Int) := Int.ediv_nonneg hi.1 (by omega)
      have d1 : i / (l.length : Int) ≤ 1000 := Int.le_trans (Int.ediv_le_self _ hi.1) hi.2
      obtain ⟨b1, b2⟩ := byte i
      obtain ⟨b3, b4⟩ := byte (i + 1)
      rw [w1, t1, t2, t3, if_pos (Int.emod_nonneg _ h0), if_pos (Int.emod_lt_of_pos _ hlp), if_pos (Int.emod_nonneg _ h0), if_pos (Int.emod_lt_of_pos _ hlp), if_neg (by omega)]
      generalize rd l (i % (l.length : Int)) = u at *
      generalize rd l ((i + 1) % (l.length : Int)) = v at *
      generalize i / (l.length : Int) = z at *
      clear w1 t1 t2 t3
      have y1 : wrap64 u = u := wrap_in (by omega) (by omega)
      have y2 : wrap64 v = v := wrap_in (by omega) (by omega)
      have y3 : wrap64 z = z := wrap_in (by omega) (by omega)
      rw [y1, y2, y3]
      clear y1 y2 y3
      have y4 : wrap64 (u * 31) = u * 31 := wrap_in (by omega) (by omega)
      rw [y4]
      clear y4
      have y5 : wrap64 (u * 31 + v) = u * 31 + v := wrap_in (by omega) (by omega)
      rw [y5]
      clear y5
      have y6 : wrap64 (u * 31 + v + z) = u * 31 + v + z := wrap_in (by omega) (by omega)
      rw [y6]
      clear y6
      have ht : Int.tmod (u * 31 + v + z) n = (u * 31 + v + z) % n := Int.tmod_eq_emod_of_nonneg (by omega)
      rw [ht]
      exact ⟨_, rfl, Int.emod_nonneg _ (by omega), fun _ => Int.emod_lt_of_pos _ (by omega)⟩


def codeOf (l : List ByteArray) : Int := if (l.length : Int) > 4096 then 2 else if (decide (l.length ≤ 64) && allH l) = true then 0 else 1
theorem spec_code_ev (l : List ByteArray) (hl : l.length ≤ 1048576) : Ev (fun k => spec_l06Code.f k l) (codeOf l) := by
  unfold spec_l06Code.f codeOf
  by_cases h : (l.length : Int) > 4096
  · rw [if_pos h]
    exact ev_if_pos h (ev_some _)
  · rw [if_neg h]
    refine ev_if_neg h (ev_bind (hashes_ev l (by omega)) ?_)
    cases hX : (decide (l.length ≤ 64) && allH l)
    · simp only [Bool.false_eq_true, if_false]; exact ev_some _
    · simp only [if_true]; exact ev_some _
theorem impl_code (l : List ByteArray) : impl_leavesCode.f l = some (codeOf l) := by
  unfold impl_leavesCode.f codeOf impl_isList_string.f
  simp only [Option.bind_some, isHash_eq]
  by_cases h : (l.length : Int) > 4096
  · rw [if_pos h, if_neg (by simp; omega)]
  · rw [if_neg h, if_pos (by simp; omega)]
    by_cases h1 : (l.length : Int) > 64
    · rw [if_pos h1, if_neg (by simp; omega)]
    · rw [if_neg h1, decide_eq_true (by omega), Bool.true_and]
      cases allH l <;> rfl
theorem codeOf_zero (l : List ByteArray) (h : codeOf l = 0) : l.length ≤ 64 ∧ ∀ x ∈ l, x.size = 32 := by
  unfold codeOf at h
  split at h
  · omega
  · split at h
    · rename_i h1 h2
      simp only [Bool.and_eq_true, decide_eq_true_eq] at h2
      exact ⟨h2.1, allH_mem l h2.2⟩
    · omega


theorem All32.allH {l : List ByteArray} (h : All32 l) : allH l = true := by
  unfold Pure.allH impl_isHash.p
  rw [Bool.not_eq_true', List.any_eq_false]
  intro x hx
  have := h x hx
  simp
  omega
theorem All32.take {l : List ByteArray} (h : All32 l) (n : Nat) : All32 (l.take n) := fun x hx => h x (List.mem_of_mem_take hx)
theorem codeOf_32 (l : List ByteArray) (h : All32 l) (hl : l.length ≤ 40) : codeOf l = 0 := by
  unfold codeOf
  rw [if_neg (by omega), if_pos (by simp [h.allH]; omega)]
theorem treeHash_ev (l : List ByteArray) (h : All32 l) (hl : l.length ≤ 40) : Ev (fun k => impl_TreeHash.f k l) (treeOf l, 0) := by
  unfold impl_TreeHash.f
  rw [impl_code]
  have hc : codeOf l = 0 := by
    unfold codeOf
    rw [if_neg (by omega), if_pos (by simp [h.allH]; omega)]
  rw [hc]
  simp only [Option.bind_some]
  exact ev_if_pos (by first | rfl | trivial) (ev_bind (impl_tree_ev _ l (Nat.le_refl _) (by omega) (fun x hx => by have := h x hx; omega)) (ev_some _))
theorem treeOf_32 (l : List ByteArray) (h : All32 l) (h1 : 1 ≤ l.length) : (treeOf l).size = 32 := by
  by_cases g : l.length = 1
  · rw [treeOf_one l g]
    cases l with
    | nil => simp at g
    | cons x t => exact h x List.mem_cons_self
  · rw [treeOf_more l (by omega), nodeOf_size]
theorem All32.drop {l : List ByteArray} (h : All32 l) (n : Nat) : All32 (l.drop n) := fun x hx => h x (List.mem_of_mem_drop hx)

theorem sameTexts_from (l : List ByteArray) (hl : l.length ≤ 100000000) (d : Nat) : ∀ i : Nat, i + d = l.length → Ev (fun k => laws_sameTexts.l0 k l l (i : Int)) true := by
  induction d with
  | zero =>
    intro i hi
    refine ev_succ ?_
    simp only [laws_sameTexts.l0]
    exact ev_if_neg (by omega) (ev_some _)
  | succ d ih =>
    intro i hi
    have := ih (i + 1) (by omega)
    refine ev_succ ?_
    have w2 : Aside0 (wrap64 ((i : Int) + 1) = ((i + 1 : Nat) : Int)) := ⟨(wrap_in (by omega) (by omega)).trans (by omega)⟩
    simp only [laws_sameTexts.l0, w2.out]
    exact ev_if_pos (by omega) (ev_if_pos (by omega) (ev_if_pos (by omega) (ev_if_pos trivial this)))
theorem sameTexts_ev (l : List ByteArray) (hl : l.length ≤ 100000000) : Ev (fun k => laws_sameTexts.f k l l) true := by
  unfold laws_sameTexts.f
  exact ev_if_pos rfl (sameTexts_from l hl l.length 0 (by omega))

theorem spec_treeHash (l : List ByteArray) (h : All32 l) (hl : l.length ≤ 40) : Ev (fun k => spec_TreeHash.f k l) (treeOf l, 0) := by
  unfold spec_TreeHash.f
  exact ev_if_neg (by omega) (ev_bind (spec_code_ev l (by omega)) (ev_if_pos (codeOf_32 l h hl) (ev_bind (spec_tree_ev l.length l (by omega) (by omega) (fun x hx => by have := h x hx; omega)) (ev_some _))))
theorem pathOf_32 (m : Nat) : ∀ (l : List ByteArray) (i : Nat), l.length ≤ m → All32 l → All32 (pathOf l i) := by
  induction m with
  | zero => intro l i h _ x hx; rw [pathOf_one l i (by omega)] at hx; simp at hx
  | succ m ih =>
    intro l i h ha
    by_cases h1 : l.length ≤ 1
    · intro x hx; rw [pathOf_one l i h1] at hx; simp at hx
    · have hh := halfN_lt l.length (by omega)
      have lt : (l.take (halfN l.length)).length = halfN l.length := by rw [List.length_take]; omega
      have ld : (l.drop (halfN l.length)).length = l.length - halfN l.length := List.length_drop
      by_cases hi : i < halfN l.length
      · rw [pathOf_low l i (by omega) hi]
        exact (ih _ i (by omega) (ha.take _)).snoc (treeOf_32 _ (ha.drop _) (by omega))
      · rw [pathOf_high l i (by omega) hi]
        exact (ih _ _ (by omega) (ha.drop _)).snoc (treeOf_32 _ (ha.take _) (by omega))
/-- What InclusionRoot tells of hashes. -/
theorem inclRoot_ev (x : ByteArray) (i n : Nat) (xs : List ByteArray) (hx : x.size = 32) (hi : i < n) (hn : n ≤ 64) (hl : xs.length ≤ 64) (hp : All32 xs) :
    Ev (fun k => impl_InclusionRoot.f k x (i : Int) (n : Int) xs) (if xs.length = depI n i n then ((upI x n i n xs.reverse).1, 0) else (⟨#[]⟩, 10)) := by
  obtain ⟨s, hs⟩ := incl_all x i n xs
  unfold impl_InclusionRoot.f
  refine ev_succ ?_
  simp only [proof_code]
  rw [if_pos (by omega), if_pos ⟨by omega, by omega, hp.allH⟩]
  simp only [Option.bind_some]
  refine ev_if_pos (by first | rfl | trivial) ?_
  have hf : impl_inclusionRoot.f x (i : Int) (n : Int) xs = some (if xs.length = depI n i n then ((upI x n i n xs.reverse).1, s, 0) else (⟨#[]⟩, [], 10)) := by
    unfold impl_inclusionRoot.f
    rw [if_pos ⟨by omega, by rw [List.all_eq_true]; intro y hy; exact decide_eq_true (by have := hp y hy; omega)⟩, if_pos (by omega), Int.toNat_natCast, Int.toNat_natCast, hs]
  rw [hf]
  by_cases h : xs.length = depI n i n
  · rw [if_pos h, if_pos h]
    exact ev_some _
  · rw [if_neg h, if_neg h]
    exact ev_some _
theorem dep_path (l : List ByteArray) (i : Nat) (hi : i < l.length) : (pathOf l i).length = depI l.length i l.length ∧ (upI (l.getD i ByteArray.empty) l.length i l.length (pathOf l i).reverse).1 = treeOf l := by
  obtain ⟨s, hs⟩ := incl_path l.length l i [] false [] (Nat.le_refl _) hi
  rw [List.append_nil] at hs
  obtain ⟨s', ha⟩ := incl_all (l.getD i ByteArray.empty) i l.length (pathOf l i)
  rw [hs] at ha
  by_cases he : (pathOf l i).length = depI l.length i l.length
  · rw [if_pos he] at ha
    simp [impl_inclusionRoot.iroot] at ha
    exact ⟨he, ha.1.symm⟩
  · rw [if_neg he] at ha
    simp [impl_inclusionRoot.iroot] at ha
theorem incl_proofs (l : List ByteArray) (i : Nat) (h : All32 l) (hi : i < l.length) (hl : l.length ≤ 40) :
    Ev (fun k => impl_InclusionProof.f k l (i : Int)) (pathOf l i, 0) ∧ Ev (fun k => spec_InclusionProof.f k l (i : Int)) (pathOf l i, 0) := by
  have hs : ∀ x ∈ l, x.size ≤ 100000000 := fun x hx => by have := h x hx; omega
  have hc := codeOf_32 l h hl
  have w : wrap64 ((l.length : Int) - 1) = (l.length : Int) - 1 := wrap_in (by omega) (by omega)
  unfold spec_InclusionProof.f impl_InclusionProof.f
  rw [impl_code]
  simp only [Option.bind_some, within_is, in_is, w]
  clear w
  have hin : 0 ≤ (i : Int) ∧ (i : Int) ≤ (l.length : Int) - 1 := by omega
  exact ⟨ev_if_pos hc (ev_if_pos (decide_eq_true hin) (ev_bind (impl_path_ev l.length l i (by omega) (by omega) (by omega) hs) (ev_some _))),
    ev_if_neg (by omega) (ev_bind (spec_code_ev l (by omega)) (ev_if_pos hc (ev_if_pos (decide_eq_true hin) (ev_bind (spec_path_ev l.length l i (by omega) (by omega) (by omega) (by omega) hs) (ev_some _)))))⟩
theorem leafHash_some (a : ByteArray) (h : a.size ≤ 1000) : ∃ r, impl_LeafHash.f a = some (r, 0) ∧ r.size = 32 := by
  refine ⟨Go.Proofs.Ytamjkgbimcpfaaa.Hash.sha ((⟨#[0]⟩ : ByteArray) ++ a), ?_, Go.Proofs.Ytamjkgbimcpfaaa.SHash.sha_size _⟩
  unfold impl_LeafHash.f
  rw [if_neg (by omega)]
  unfold impl_leafHash.f
  rw [if_pos (by omega), hash_some _ (by rw [ByteArray.size_append]; show 1 + _ ≤ _; omega)]
  rfl
theorem FnMerkle : laws_FnMerkle.Pure := by
  intro c m _ _ hcb _ _ hmb
  refine Ev.rounds (r := true) ?_
  unfold laws_FnMerkle.f
  have byte : ∀ (l : List Int), (∀ x ∈ l, (Lit.int .u8 x).wf = true) → ∀ x ∈ l, 0 ≤ x ∧ x < 256 := fun l hl x hx => by
    have := hl x hx
    simp only [Lit.wf, Bool.and_eq_true, decide_eq_true_eq] at this
    have h1 : IntKind.u8.min = 0 := rfl
    have h2 : IntKind.u8.max = 255 := rfl
    omega
  by_cases h0 : (c.length : Int) > 1048576
  · refine ev_if_pos h0 (ev_succ ?_)
    simp only [laws_FnMerkle.j0]
    exact ev_if_pos (by first | rfl | trivial) (ev_some _)
  · refine ev_if_neg h0 ?_
    by_cases h1 : (m.length : Int) > 1048576
    · rw [decide_eq_true h1]
      refine ev_succ ?_
      simp only [laws_FnMerkle.j0]
      exact ev_if_pos (by first | rfl | trivial) (ev_some _)
    · rw [decide_eq_false h1]
      refine ev_succ ?_
      simp only [laws_FnMerkle.j0]
      obtain ⟨l, hl, h32, h40⟩ := leavesOf_ev c (byte c hcb)
      have t1 := treeHash_ev l h32 h40
      have t2 := spec_treeHash l h32 h40
      refine ev_if_neg (by simp) (ev_bind hl (ev_bind t1 (ev_bind t2 (ev_if_pos (by first | rfl | trivial) (ev_succ ?_)))))
      simp only [laws_FnMerkle.j1]
      refine ev_if_neg (by simp) ?_
      by_cases hz : (l.length : Int) = 0
      · exact ev_if_pos hz (ev_some _)
      · refine ev_if_neg hz ?_
        obtain ⟨a, ea, a0, a1⟩ := at_some m (byte m hmb) 0 (by omega) (l.length : Int) (by omega) (by omega)
        have a2 := a1 (by omega)
        obtain ⟨i, rfl⟩ := Int.eq_ofNat_of_zero_le a0
        have hi : i < l.length := by omega
        obtain ⟨p1, p2⟩ := incl_proofs l i h32 hi h40
        obtain ⟨d1, d2⟩ := dep_path l i hi
        have p32 := pathOf_32 l.length l i (Nat.le_refl _) h32
        have hpl := pathOf_length l.length l i (Nat.le_refl _)
        have hg : (l.getD i ByteArray.empty).size = 32 := by
          rw [List.getD_eq_getElem?_getD, List.getElem?_eq_getElem hi, Option.getD_some]
          exact h32 _ (List.getElem_mem _)
        have r1 := inclRoot_ev (l.getD i ByteArray.empty) i l.length (pathOf l i) hg hi (by omega) (by omega) p32
        rw [if_pos d1, d2] at r1
        have s1 := sameTexts_ev (pathOf l i) (by omega)
        have hrd : rdOf ByteArray.empty l (i : Int) = l.getD i ByteArray.empty := by unfold rdOf; rw [Int.toNat_natCast]
        rw [ea]
        simp only [Option.bind_some, hrd]
        refine ev_bind p1 (ev_bind p2 (ev_if_pos a0 (ev_if_pos a2 (ev_bind r1 (ev_if_pos (by first | rfl | trivial) (ev_bind s1 (ev_if_pos (by first | rfl | trivial) (ev_if_pos (by first | rfl | trivial) (ev_succ ?_)))))))))
        simp only [laws_FnMerkle.j2, hrd]
        have hm : 0 ≤ mn 9 (m.length : Int) ∧ mn 9 (m.length : Int) ≤ (m.length : Int) ∧ mn 9 (m.length : Int) ≤ 9 := by unfold mn; split <;> omega
        have hsz : (strOfNums (m.take (mn 9 (m.length : Int)).toNat)).size ≤ 9 := by rw [size_strOfNums, List.length_take]; omega
        generalize strOfNums (m.take (mn 9 (m.length : Int)).toNat) = z at hsz ⊢
        obtain ⟨h, eh, h3⟩ := leafHash_some ((⟨#[97, 110, 111, 116, 104, 101, 114, 32, 111, 110, 101]⟩ : ByteArray) ++ z) (by rw [ByteArray.size_append]; show 11 + _ ≤ _; omega)
        rw [eh]
        simp only [Option.bind_some]
        obtain ⟨r, e, q1, q2⟩ := both_InclusionRoot h (i : Int) (l.length : Int) (pathOf l i) (by omega)
        have r2 := inclRoot_ev h i l.length (pathOf l i) h3 hi (by omega) (by omega) p32
        rw [if_pos d1] at r2
        have hu := ev_unique q2 r2
        simp only [Prod.mk.injEq] at hu
        obtain ⟨_, rfl⟩ := hu
        have r3 := inclRoot_ev (l.getD i ByteArray.empty) i l.length (pathOf l i ++ [h]) hg hi (by omega) (by rw [List.length_append, List.length_cons, List.length_nil]; omega) (p32.snoc h3)
        rw [if_neg (by rw [List.length_append, List.length_cons, List.length_nil]; omega)] at r3
        refine ev_if_neg (by simp) (ev_if_pos hm.1 (ev_if_pos hm.2.1 (ev_if_pos (by omega) (ev_bind q2 (ev_bind q1 (ev_if_pos (by first | rfl | trivial) (ev_if_pos (by first | rfl | trivial) (ev_if_pos (by first | rfl | trivial) (ev_if_pos a0 (ev_if_pos a2 ?_))))))))))
        simp only [List.nil_append, List.length_nil]
        exact ev_if_pos (by omega) (ev_if_pos (by show _ + 1 < _; omega) (ev_bind r3 (ev_some _)))
end Go.Proofs.Ytamjkgbimcpfaaa.Pure
