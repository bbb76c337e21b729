/- The program's ConsistencyProof answers as the reference's at all lists of texts and sizes: the plain form. No conditions. -/
import Derived.Test.YtamjkgbimcpfaaaQFnExactConsistencyProof
import Derived.Test.YtamjkgbimcpfaaaU
namespace Go.Proofs.Ytamjkgbimcpfaaa.Pure
open Go.RowKit Go.Proofs.Ytamjkgbimcpfaaa.PFnExactConsistencyProof Go.Proofs.YtamjkgbimcpfaaaW.PrintWords Go.Proofs.YtamjkgbimcpfaaaW.PrintLast Go.Proofs.YtamjkgbimcpfaaaW.PrintMore Go.Proofs.Ytamjkgbimcpfaaa.U
set_option linter.unusedVariables false
set_option linter.unusedSimpArgs false
theorem hash_some (s : ByteArray) (h : s.size ≤ 1099511627776) : impl_hash.f s = some (Go.Proofs.Ytamjkgbimcpfaaa.Hash.sha s) := by
  unfold impl_hash.f
  rw [if_pos h]
theorem lhash_some (l : List Int) (hb : ∀ x ∈ l, 0 ≤ x ∧ x < 256) (h : l.length ≤ 1099511627776) : spec_l01Hash.f l = some (Go.Proofs.Ytamjkgbimcpfaaa.Hash.sha (strOfNums l)) := by
  unfold spec_l01Hash.f
  rw [if_pos h, Go.Proofs.Ytamjkgbimcpfaaa.SHash.shaL_eq l hb]
theorem bytesOf_len (s : ByteArray) : (bytesOf s).length = s.size := bytesOf_length s

/-- What two hashes come to. -/
def nodeOf (a b : ByteArray) : ByteArray := Go.Proofs.Ytamjkgbimcpfaaa.Hash.sha ((⟨#[1]⟩ : ByteArray) ++ a ++ b)
theorem nodeOf_size (a b : ByteArray) : (nodeOf a b).size = 32 := Go.Proofs.Ytamjkgbimcpfaaa.SHash.sha_size _
theorem impl_node (a b : ByteArray) (ha : a.size ≤ 100000000) (hb : b.size ≤ 100000000) : impl_nodeHash.f a b = some (nodeOf a b) := by
  unfold impl_nodeHash.f
  rw [if_pos (by omega), if_pos (by omega), hash_some _ (by rw [ByteArray.size_append, ByteArray.size_append]; show 1 + _ + _ ≤ _; omega)]
  rfl
theorem spec_node (a b : ByteArray) (ha : a.size ≤ 100000000) (hb : b.size ≤ 100000000) : spec_l06Node.f a b = some (nodeOf a b) := by
  unfold spec_l06Node.f
  simp only [Option.bind_some]
  rw [if_pos (by show 1 + _ < _; omega), if_pos (by rw [List.length_append, bytesOf_len]; show 1 + _ + _ < _; omega), lhash_some _ (fun x hx => by
    simp only [List.mem_append, List.mem_cons, List.not_mem_nil, or_false] at hx
    rcases hx with (rfl | h) | h
    · omega
    · exact bytesOf_range a x h
    · exact bytesOf_range b x h) (by rw [List.length_append, List.length_append, bytesOf_len, bytesOf_len]; show 1 + _ + _ ≤ _; omega)]
  rw [strOfNums_append, strOfNums_append, strOfNums_bytesOf, strOfNums_bytesOf]
  rfl

/-- The greatest power of two below a number above one. -/
def halfGo : Nat → Nat → Nat → Nat
  | 0, _, x => x
  | f + 1, n, x => if 2 * x < n then halfGo f n (2 * x) else x
def halfN (n : Nat) : Nat := halfGo n n 1
theorem halfGo_lt (f : Nat) : ∀ (n x : Nat), 1 ≤ x → x < n → 1 ≤ halfGo f n x ∧ halfGo f n x < n := by
  induction f with
  | zero => intro n x h1 h2; exact ⟨h1, h2⟩
  | succ f ih =>
    intro n x h1 h2
    unfold halfGo
    split
    · exact ih n (2 * x) (by omega) (by omega)
    · exact ⟨h1, h2⟩
theorem halfN_lt (n : Nat) (h : 2 ≤ n) : 1 ≤ halfN n ∧ halfN n < n := halfGo_lt n n 1 (by omega) (by omega)
theorem half_ev (f : Nat) : ∀ (n x : Nat), n ≤ 1000000 → 1 ≤ x → x ≤ 1000000 → n - x ≤ f → Ev (fun k => spec_l06Half.l0 k (n : Int) (x : Int)) ((halfGo f n x : Nat) : Int) := by
  induction f with
  | zero =>
    intro n x hn h1 h2 hf
    have w1 : wrap64 (2 * (x : Int)) = 2 * (x : Int) := wrap_in (by omega) (by omega)
    refine ev_succ ?_
    simp only [spec_l06Half.l0, w1]
    exact ev_if_neg (by omega) (ev_some _)
  | succ f ih =>
    intro n x hn h1 h2 hf
    have w1 : Aside0 (wrap64 (2 * (x : Int)) = 2 * (x : Int)) := ⟨wrap_in (by omega) (by omega)⟩
    have w2 : Aside0 (wrap64 ((x : Int) * 2) = ((2 * x : Nat) : Int)) := ⟨(wrap_in (by omega) (by omega)).trans (by omega)⟩
    refine ev_succ ?_
    simp only [spec_l06Half.l0, w1.out, w2.out, halfGo]
    by_cases h : 2 * x < n
    · rw [if_pos h]
      exact ev_if_pos (by omega) (ih n (2 * x) hn (by omega) (by omega) (by omega))
    · rw [if_neg h]
      exact ev_if_neg (by omega) (ev_some _)
theorem split_ev (f : Nat) : ∀ (n x : Nat), n ≤ 1000000 → 1 ≤ x → x ≤ 1000000 → n - x ≤ f → Ev (fun k => impl_split.l0 k (n : Int) (x : Int)) ((halfGo f n x : Nat) : Int) := by
  induction f with
  | zero =>
    intro n x hn h1 h2 hf
    have w1 : wrap64 (2 * (x : Int)) = 2 * (x : Int) := wrap_in (by omega) (by omega)
    refine ev_succ ?_
    simp only [impl_split.l0, w1]
    exact ev_if_neg (by omega) (ev_some _)
  | succ f ih =>
    intro n x hn h1 h2 hf
    have w1 : Aside0 (wrap64 (2 * (x : Int)) = 2 * (x : Int)) := ⟨wrap_in (by omega) (by omega)⟩
    have w2 : Aside0 (wrap64 ((x : Int) * 2) = ((2 * x : Nat) : Int)) := ⟨(wrap_in (by omega) (by omega)).trans (by omega)⟩
    refine ev_succ ?_
    simp only [impl_split.l0, w1.out, w2.out, halfGo]
    by_cases h : 2 * x < n
    · rw [if_pos h]
      exact ev_if_pos (by omega) (ih n (2 * x) hn (by omega) (by omega) (by omega))
    · rw [if_neg h]
      exact ev_if_neg (by omega) (ev_some _)
theorem half_any (n : Nat) (hn : n ≤ 1000000) : Ev (fun k => spec_l06Half.f k (n : Int)) ((halfN n : Nat) : Int) := half_ev n n 1 hn (by omega) (by omega) (by omega)
theorem split_any (n : Nat) (hn : n ≤ 1000000) : Ev (fun k => impl_split.f k (n : Int)) ((halfN n : Nat) : Int) := split_ev n n 1 hn (by omega) (by omega) (by omega)

/-- The hash of leaf hashes. -/
def treeOf (l : List ByteArray) : ByteArray :=
  if _h0 : l.length = 0 then Go.Proofs.Ytamjkgbimcpfaaa.Hash.sha ⟨#[]⟩
  else if _h1 : l.length = 1 then l.getD 0 ByteArray.empty
  else nodeOf (treeOf (l.take (halfN l.length))) (treeOf (l.drop (halfN l.length)))
  termination_by l.length
  decreasing_by
    · have := halfN_lt l.length (by omega)
      rw [List.length_take]
      omega
    · have := halfN_lt l.length (by omega)
      rw [List.length_drop]
      omega
theorem treeOf_zero (l : List ByteArray) (h : l.length = 0) : treeOf l = Go.Proofs.Ytamjkgbimcpfaaa.Hash.sha ⟨#[]⟩ := by rw [treeOf, dif_pos h]
theorem treeOf_one (l : List ByteArray) (h : l.length = 1) : treeOf l = l.getD 0 ByteArray.empty := by rw [treeOf, dif_neg (by omega), dif_pos h]
theorem treeOf_more (l : List ByteArray) (h : 2 ≤ l.length) : treeOf l = nodeOf (treeOf (l.take (halfN l.length))) (treeOf (l.drop (halfN l.length))) := by rw [treeOf, dif_neg (by omega), dif_neg (by omega)]
theorem rdOf_zero (l : List ByteArray) : rdOf ByteArray.empty l 0 = l.getD 0 ByteArray.empty := rfl
theorem getD_mem_size (l : List ByteArray) (n : Nat) (h : ∀ x ∈ l, x.size ≤ n) : (l.getD 0 ByteArray.empty).size ≤ n := by
  cases l with
  | nil => exact Nat.zero_le _
  | cons a t => exact h a List.mem_cons_self
theorem treeOf_size (l : List ByteArray) (h : ∀ x ∈ l, x.size ≤ 100000000) : (treeOf l).size ≤ 100000000 := by
  by_cases h0 : l.length = 0
  · rw [treeOf_zero l h0, Go.Proofs.Ytamjkgbimcpfaaa.SHash.sha_size]; omega
  · by_cases h1 : l.length = 1
    · rw [treeOf_one l h1]; exact getD_mem_size l _ h
    · rw [treeOf_more l (by omega), nodeOf_size]; omega
theorem impl_tree_ev (m : Nat) : ∀ l : List ByteArray, l.length ≤ m → l.length ≤ 1000000 → (∀ x ∈ l, x.size ≤ 100000000) → Ev (fun k => impl_treeHash.f k l) (treeOf l) := by
  induction m with
  | zero =>
    intro l hm _ _
    rw [treeOf_zero l (by omega)]
    refine ev_succ ?_
    simp only [impl_treeHash.f]
    refine ev_if_pos (by omega) ?_
    rw [hash_some _ (by show 0 ≤ _; omega)]
    exact ev_some _
  | succ m ih =>
    intro l hm hl hs
    refine ev_succ ?_
    simp only [impl_treeHash.f]
    by_cases h0 : l.length = 0
    · rw [treeOf_zero l h0]
      refine ev_if_pos (by omega) ?_
      rw [hash_some _ (by show 0 ≤ _; omega)]
      exact ev_some _
    · by_cases h1 : l.length = 1
      · rw [treeOf_one l h1]
        exact ev_if_neg (by omega) (ev_if_pos (by omega) (ev_if_pos (by omega) (ev_some _)))
      · have hh := halfN_lt l.length (by omega)
        have h2 := ih (l.take (halfN l.length)) (by rw [List.length_take]; omega) (by rw [List.length_take]; omega) (fun x hx => hs x (List.mem_of_mem_take hx))
        have h3 := ih (l.drop (halfN l.length)) (by rw [List.length_drop]; omega) (by rw [List.length_drop]; omega) (fun x hx => hs x (List.mem_of_mem_drop hx))
        rw [treeOf_more l (by omega)]
        refine ev_if_neg (by omega) (ev_if_neg (by omega) (ev_bind (split_any l.length hl) (ev_if_pos (by omega) (ev_if_pos (by omega) ?_))))
        rw [Int.toNat_natCast]
        refine ev_bind h2 (ev_bind h3 ?_)
        rw [impl_node _ _ (treeOf_size _ fun x hx => hs x (List.mem_of_mem_take hx)) (treeOf_size _ fun x hx => hs x (List.mem_of_mem_drop hx))]
        exact ev_some _
theorem spec_tree_ev (m : Nat) : ∀ l : List ByteArray, l.length ≤ m → l.length ≤ 1000000 → (∀ x ∈ l, x.size ≤ 100000000) → Ev (fun k => spec_l06Tree.f k l) (treeOf l) := by
  have hnil : spec_l01Hash.f [] = some (Go.Proofs.Ytamjkgbimcpfaaa.Hash.sha ⟨#[]⟩) := lhash_some [] (fun x hx => by simp at hx) (by show 0 ≤ _; omega)
  induction m with
  | zero =>
    intro l hm _ _
    rw [treeOf_zero l (by omega)]
    refine ev_succ ?_
    simp only [spec_l06Tree.f]
    refine ev_if_pos (by omega) ?_
    rw [hnil]
    exact ev_some _
  | succ m ih =>
    intro l hm hl hs
    refine ev_succ ?_
    simp only [spec_l06Tree.f]
    by_cases h0 : l.length = 0
    · rw [treeOf_zero l h0]
      refine ev_if_pos (by omega) ?_
      rw [hnil]
      exact ev_some _
    · by_cases h1 : l.length = 1
      · rw [treeOf_one l h1]
        exact ev_if_neg (by omega) (ev_if_pos (by omega) (ev_if_pos (by omega) (ev_some _)))
      · have hh := halfN_lt l.length (by omega)
        have h2 := ih (l.take (halfN l.length)) (by rw [List.length_take]; omega) (by rw [List.length_take]; omega) (fun x hx => hs x (List.mem_of_mem_take hx))
        have h3 := ih (l.drop (halfN l.length)) (by rw [List.length_drop]; omega) (by rw [List.length_drop]; omega) (fun x hx => hs x (List.mem_of_mem_drop hx))
        rw [treeOf_more l (by omega)]
        refine ev_if_neg (by omega) (ev_if_neg (by omega) (ev_bind (half_any l.length hl) (ev_if_pos (by omega) (ev_if_pos (by omega) ?_))))
        rw [Int.toNat_natCast]
        refine ev_bind h2 (ev_bind h3 ?_)
        rw [spec_node _ _ (treeOf_size _ fun x hx => hs x (List.mem_of_mem_take hx)) (treeOf_size _ fun x hx => hs x (List.mem_of_mem_drop hx))]
        exact ev_some _

/-- The hashes that lead from the root of the first so many leaves to that of all. -/
def subF : Nat → List ByteArray → Nat → Bool → List ByteArray
  | 0, _, _, _ => []
  | f + 1, l, m, known => if m = l.length then (if known then [] else [treeOf l]) else if m ≤ halfN l.length then subF f (l.take (halfN l.length)) m known ++ [treeOf (l.drop (halfN l.length))]
    else subF f (l.drop (halfN l.length)) (m - halfN l.length) false ++ [treeOf (l.take (halfN l.length))]
theorem subF_length (f : Nat) : ∀ (l : List ByteArray) (m : Nat) (known : Bool), (subF f l m known).length ≤ f := by
  induction f with
  | zero => intro l m known; exact Nat.le_refl _
  | succ f ih =>
    intro l m known
    simp only [subF]
    split
    · split
      · exact Nat.zero_le _
      · simp
    · split
      · have := ih (l.take (halfN l.length)) m known
        rw [List.length_append]
        simp only [List.length_cons, List.length_nil]
        omega
      · have := ih (l.drop (halfN l.length)) (m - halfN l.length) false
        rw [List.length_append]
        simp only [List.length_cons, List.length_nil]
        omega
theorem spec_sub_ev (f : Nat) : ∀ (l : List ByteArray) (m : Nat) (known : Bool), l.length ≤ f → f ≤ 1000000 → 1 ≤ m → m ≤ l.length → (∀ x ∈ l, x.size ≤ 100000000) → Ev (fun k => spec_l06Sub.f k l (m : Int) known) (subF f l m known) := by
  induction f with
  | zero => intro l m known h _ h1 h2; omega
  | succ f ih =>
    intro l m known hf hfb h1 h2 hs
    refine ev_succ ?_
    simp only [spec_l06Sub.f, subF]
    by_cases he : m = l.length
    · rw [if_pos he]
      refine ev_if_pos (by omega) ?_
      cases known
      · exact ev_if_neg (by simp) (ev_bind (spec_tree_ev _ l (Nat.le_refl _) (by omega) hs) (ev_some _))
      · exact ev_if_pos (by first | rfl | trivial) (ev_some _)
    · rw [if_neg he]
      have hh := halfN_lt l.length (by omega)
      have st : ∀ x ∈ l.take (halfN l.length), x.size ≤ 100000000 := fun x hx => hs x (List.mem_of_mem_take hx)
      have sd : ∀ x ∈ l.drop (halfN l.length), x.size ≤ 100000000 := fun x hx => hs x (List.mem_of_mem_drop hx)
      have lt : (l.take (halfN l.length)).length = halfN l.length := by rw [List.length_take]; omega
      have ld : (l.drop (halfN l.length)).length = l.length - halfN l.length := List.length_drop
      refine ev_if_neg (by omega) (ev_bind (half_any l.length (by omega)) ?_)
      by_cases hlow : m ≤ halfN l.length
      · have h3 := spec_tree_ev _ (l.drop (halfN l.length)) (Nat.le_refl _) (by omega) sd
        have h4 := subF_length f (l.take (halfN l.length)) m known
        have h5 := ih (l.take (halfN l.length)) m known (by omega) (by omega) h1 (by omega) st
        rw [if_pos hlow]
        refine ev_if_pos (by omega) (ev_if_pos (by omega) (ev_if_pos (by omega) ?_))
        rw [Int.toNat_natCast]
        exact ev_bind h5 (ev_bind h3 (ev_if_pos (by omega) (ev_some _)))
      · have h3 := spec_tree_ev _ (l.take (halfN l.length)) (Nat.le_refl _) (by omega) st
        have h4 := subF_length f (l.drop (halfN l.length)) (m - halfN l.length) false
        have h5 := ih (l.drop (halfN l.length)) (m - halfN l.length) false (by omega) (by omega) (by omega) (by omega) sd
        have w : wrap64 ((m : Int) - ((halfN l.length : Nat) : Int)) = ((m - halfN l.length : Nat) : Int) := (wrap_in (by omega) (by omega)).trans (by omega)
        rw [if_neg hlow]
        refine ev_if_neg (by clear w; omega) (ev_if_pos (by clear w; omega) (ev_if_pos (by clear w; omega) ?_))
        rw [Int.toNat_natCast, w]
        exact ev_bind h5 (ev_bind h3 (ev_if_pos (by clear w; omega) (ev_some _)))
theorem impl_grow_ev (f : Nat) : ∀ (l : List ByteArray) (m : Nat) (known : Bool), l.length ≤ f → f ≤ 1000000 → 1 ≤ m → m ≤ l.length → (∀ x ∈ l, x.size ≤ 100000000) → Ev (fun k => impl_growth.f k l (m : Int) known) (subF f l m known) := by
  induction f with
  | zero => intro l m known h _ h1 h2; omega
  | succ f ih =>
    intro l m known hf hfb h1 h2 hs
    refine ev_succ ?_
    simp only [impl_growth.f, subF]
    by_cases he : m = l.length
    · rw [if_pos he]
      refine ev_if_pos (by omega) (ev_succ ?_)
      simp only [impl_growth.j0]
      cases known
      · exact ev_if_neg (by simp) (ev_if_pos (by omega) (ev_bind (impl_tree_ev _ l (Nat.le_refl _) (by omega) hs) (ev_some _)))
      · exact ev_if_pos (by first | rfl | trivial) (ev_some _)
    · rw [if_neg he]
      have hh := halfN_lt l.length (by omega)
      have st : ∀ x ∈ l.take (halfN l.length), x.size ≤ 100000000 := fun x hx => hs x (List.mem_of_mem_take hx)
      have sd : ∀ x ∈ l.drop (halfN l.length), x.size ≤ 100000000 := fun x hx => hs x (List.mem_of_mem_drop hx)
      have lt : (l.take (halfN l.length)).length = halfN l.length := by rw [List.length_take]; omega
      have ld : (l.drop (halfN l.length)).length = l.length - halfN l.length := List.length_drop
      refine ev_if_neg (by omega) (ev_succ ?_)
      simp only [impl_growth.j0]
      refine ev_if_neg (by simp) (ev_if_neg (by omega) (ev_bind (split_any l.length (by omega)) ?_))
      by_cases hlow : m ≤ halfN l.length
      · have h3 := impl_tree_ev _ (l.drop (halfN l.length)) (Nat.le_refl _) (by omega) sd
        have h4 := subF_length f (l.take (halfN l.length)) m known
        have h5 := ih (l.take (halfN l.length)) m known (by omega) (by omega) h1 (by omega) st
        rw [if_pos hlow]
        refine ev_if_pos (by omega) (ev_if_pos (by omega) (ev_if_pos (by omega) ?_))
        rw [Int.toNat_natCast]
        exact ev_bind h5 (ev_bind h3 (ev_if_pos (by omega) (ev_some _)))
      · have h3 := impl_tree_ev _ (l.take (halfN l.length)) (Nat.le_refl _) (by omega) st
        have h4 := subF_length f (l.drop (halfN l.length)) (m - halfN l.length) false
        have h5 := ih (l.drop (halfN l.length)) (m - halfN l.length) false (by omega) (by omega) (by omega) (by omega) sd
        have w : wrap64 ((m : Int) - ((halfN l.length : Nat) : Int)) = ((m - halfN l.length : Nat) : Int) := (wrap_in (by omega) (by omega)).trans (by omega)
        rw [if_neg hlow]
        refine ev_if_neg (by clear w; omega) (ev_if_pos (by clear w; omega) (ev_if_pos (by clear w; omega) ?_))
        rw [Int.toNat_natCast, w]
        exact ev_bind h5 (ev_bind h3 (ev_if_pos (by clear w; omega) (ev_some _)))

theorem szStringS_from (l : List ByteArray) (hg : ∀ x ∈ l, x.size ≤ maxLen) (d : Nat) : ∀ (i : Nat) (v : Int), i + d = l.length → 0 ≤ v → v ≤ 1048576 → l.length ≤ 1048576 →
    ∃ s, Ev (fun k => laws_szStringS.l0 k l v (i : Int)) s ∧ (s = -1 ∨ 0 ≤ s ∧ s ≤ v ∧ ∀ x ∈ l.drop i, (x.size : Int) ≤ v) := by
  induction d with
  | zero =>
    intro i v hi h0 h1 hl
    refine ⟨v, ev_succ ?_, .inr ⟨h0, Int.le_refl _, fun x hx => by rw [List.drop_eq_nil_of_le (by omega)] at hx; simp at hx⟩⟩
    simp only [laws_szStringS.l0]
    exact ev_if_neg (by omega) (ev_some _)
  | succ d ih =>
    intro i v hi h0 h1 hl
    have hm : rdOf ByteArray.empty l (i : Int) = l[i]'(by omega) := by
      unfold rdOf
      rw [Int.toNat_natCast, List.getD_eq_getElem?_getD, List.getElem?_eq_getElem (by omega), Option.getD_some]
    have hsz := hg (l[i]'(by omega)) (List.getElem_mem _)
    unfold maxLen at hsz
    have w1 : Aside0 (wrap64 (v - ((rdOf ByteArray.empty l (i : Int)).size : Int)) = v - ((l[i]'(by omega)).size : Int)) := ⟨by rw [hm]; exact wrap_in (by omega) (by omega)⟩
    have w2 : Aside0 (wrap64 ((i : Int) + 1) = ((i + 1 : Nat) : Int)) := ⟨(wrap_in (by omega) (by omega)).trans (by omega)⟩
    by_cases hneg : v - ((l[i]'(by omega)).size : Int) < 0
    · refine ⟨-1, ev_succ ?_, .inl rfl⟩
      simp only [laws_szStringS.l0, w1.out, w2.out]
      exact ev_if_pos (by omega) (ev_if_pos (by omega) (ev_if_pos hneg (ev_some _)))
    · obtain ⟨s, hs, hr⟩ := ih (i + 1) (v - ((l[i]'(by omega)).size : Int)) (by omega) (by omega) (by omega) hl
      refine ⟨s, ev_succ ?_, ?_⟩
      · simp only [laws_szStringS.l0, w1.out, w2.out]
        exact ev_if_pos (by omega) (ev_if_pos (by omega) (ev_if_neg hneg hs))
      · rcases hr with h | ⟨ha, hb, hc⟩
        · exact .inl h
        · refine .inr ⟨ha, by omega, fun x hx => ?_⟩
          rw [List.drop_eq_getElem_cons (by omega)] at hx
          rcases List.mem_cons.1 hx with rfl | hx
          · omega
          · have := hc x hx
            omega
theorem szStringS_ev (l : List ByteArray) (hl : l.length ≤ maxLen) (hg : ∀ x ∈ l, x.size ≤ maxLen) (n : Int) (hn : 0 ≤ n) (hn1 : n ≤ 1048576) : ∃ s, Ev (fun k => laws_szStringS.f k l n) s ∧ (s = -1 ∨ 0 ≤ s ∧ s ≤ n ∧ (l.length : Int) ≤ n ∧ ∀ x ∈ l, (x.size : Int) ≤ n) := by
  unfold maxLen at hl
  have hw : wrap64 (n - (l.length : Int)) = n - (l.length : Int) := wrap_in (by omega) (by omega)
  unfold laws_szStringS.f
  rw [hw]
  by_cases h : n - (l.length : Int) < 0
  · exact ⟨-1, ev_if_pos h (ev_some _), .inl rfl⟩
  · obtain ⟨s, hs, hr⟩ := szStringS_from l hg l.length 0 (n - (l.length : Int)) (by omega) (by omega) (by omega) (by omega)
    refine ⟨s, ev_if_neg h hs, ?_⟩
    rcases hr with h | ⟨ha, hb, hc⟩
    · exact .inl h
    · exact .inr ⟨ha, by omega, by omega, fun x hx => by have := hc x (by simpa using hx); omega⟩

theorem toStringS_from (l : List ByteArray) (hl : l.length ≤ 1048576) (d : Nat) : ∀ (i : Nat) (x : List ByteArray), i + d = l.length → x.length = l.length → (∀ j, j < i → x[j]? = l[j]?) → Ev (fun k => laws_toStringS.l0 k l x (i : Int)) l := by
  induction d with
  | zero =>
    intro i x hi hx h
    refine ev_succ ?_
    simp only [laws_toStringS.l0]
    have := copy_end l x hx (fun j hj => h j (by omega))
    subst this
    exact ev_if_neg (by omega) (ev_some _)
  | succ d ih =>
    intro i x hi hx h
    obtain ⟨hs1, hs2⟩ := copy_step l x i ByteArray.empty hx (by omega) h
    have w2 : Aside0 (wrap64 ((i : Int) + 1) = ((i + 1 : Nat) : Int)) := ⟨(wrap_in (by omega) (by omega)).trans (by omega)⟩
    have := ih (i + 1) _ (by omega) hs1 hs2
    refine ev_succ ?_
    simp only [laws_toStringS.l0, w2.out, Int.toNat_natCast]
    exact ev_if_pos (by omega) (ev_if_pos (by omega) (ev_if_pos (by omega) this))
theorem toStringS_ev (l : List ByteArray) (hl : l.length ≤ 1048576) : Ev (fun k => laws_toStringS.f k l) l := by
  unfold laws_toStringS.f
  exact ev_if_pos (by omega) (ev_if_pos (by omega) (toStringS_from l hl l.length 0 _ (by omega) (by simp) (fun j hj => absurd hj (by omega))))

theorem eqStringS_from (l : List ByteArray) (hl : l.length ≤ 100000000) (d : Nat) : ∀ i : Nat, i + d = l.length → Ev (fun k => laws_eqStringS.l0 k l l (i : Int)) true := by
  induction d with
  | zero =>
    intro i hi
    refine ev_succ ?_
    simp only [laws_eqStringS.l0]
    exact ev_if_neg (by omega) (ev_some _)
  | succ d ih =>
    intro i hi
    have := ih (i + 1) (by omega)
    refine ev_succ ?_
    have w2 : Aside0 (wrap64 ((i : Int) + 1) = ((i + 1 : Nat) : Int)) := ⟨(wrap_in (by omega) (by omega)).trans (by omega)⟩
    simp only [laws_eqStringS.l0, w2.out]
    exact ev_if_pos (by omega) (ev_if_pos (by omega) (ev_if_pos (by omega) (ev_if_pos trivial this)))
theorem eqStringS_ev (l : List ByteArray) (hl : l.length ≤ 100000000) : Ev (fun k => laws_eqStringS.f k l l) true := by
  unfold laws_eqStringS.f
  exact ev_if_pos rfl (eqStringS_from l hl l.length 0 (by omega))

/-- Each number has a mark. -/
theorem markText_from (n : Nat) : ∀ (x : Int) (acc : ByteArray), x.toNat ≤ n → acc.size + n ≤ 4000000000 → ∃ t : ByteArray, Ev (fun k => laws_markText.l0 k x acc) t := by
  induction n with
  | zero =>
    intro x acc hx ha
    refine ⟨(⟨#[109]⟩ : ByteArray) ++ acc, ev_succ ?_⟩
    simp only [laws_markText.l0]
    exact ev_if_neg (by omega) (ev_if_pos (by omega) (ev_some _))
  | succ n ih =>
    intro x acc hx ha
    by_cases hp : x > 0
    · have hw : Aside0 (wrap64 (Int.tdiv x 10) = x / 10 ∨ ¬ x ≤ 9223372036854775807) := ⟨by
        rw [Int.tdiv_eq_ediv_of_nonneg (by omega)]
        by_cases h : x ≤ 9223372036854775807
        · exact .inl (wrap_in (by omega) (by omega))
        · exact .inr h⟩
      rcases hw.out with hq | hq
      · have hsz : (strOfNums [(wrap64 (48 + (Int.tmod x 10))) % 256]).size = 1 := size_strOfNums _
        obtain ⟨t, ht⟩ := ih (x / 10) (strOfNums [(wrap64 (48 + (Int.tmod x 10))) % 256] ++ acc) (by omega) (by rw [ByteArray.size_append, hsz]; omega)
        refine ⟨t, ev_succ ?_⟩
        simp only [laws_markText.l0, Option.bind_some, hq]
        exact ev_if_pos hp (ev_if_pos (by omega) ht)
      · exfalso; omega
    · refine ⟨(⟨#[109]⟩ : ByteArray) ++ acc, ev_succ ?_⟩
      simp only [laws_markText.l0]
      exact ev_if_neg hp (ev_if_pos (by omega) (ev_some _))
theorem markText_ex (x : Int) (hx : x ≤ 1000000000) : ∃ t : ByteArray, Ev (fun k => laws_markText.f k x) t := by
  unfold laws_markText.f
  by_cases h : x ≤ 0
  · exact ⟨_, ev_if_pos h (ev_some _)⟩
  · obtain ⟨t, ht⟩ := markText_from x.toNat x ⟨#[]⟩ (by omega) (by show 0 + _ ≤ _; omega)
    exact ⟨t, ev_if_neg h ht⟩
open Classical in
noncomputable def markT (x : Int) : ByteArray := if h : ∃ t : ByteArray, Ev (fun k => laws_markText.f k x) t then h.choose else ⟨#[]⟩
theorem markText_ev (x : Int) (hx : x ≤ 1000000000) : Ev (fun k => laws_markText.f k x) (markT x) := by
  unfold markT
  rw [dif_pos (markText_ex x hx)]
  exact (markText_ex x hx).choose_spec

/-- What the marks are. -/
noncomputable def marksT (n : Nat) : List ByteArray := (List.range n).map fun i => markT (((i : Nat) : Int) + 1)
theorem marksT_length (n : Nat) : (marksT n).length = n := by simp [marksT]
theorem marksT_get (n i : Nat) (h : i < n) : (marksT n).getD i ByteArray.empty = markT ((i : Int) + 1) := by
  unfold marksT
  rw [List.getD_eq_getElem?_getD, List.getElem?_map, List.getElem?_range h]
  rfl
theorem markStringS_from (n d : Nat) (hn : n ≤ 100000000) : ∀ (i : Nat) (x : List ByteArray), i + d = n → x.length = n → (∀ j, j < i → x[j]? = (marksT n)[j]?) → Ev (fun k => laws_markStringS.l0 k x ((i : Int) + 1) (i : Int)) ((n : Int) + 1, marksT n) := by
  have hml := marksT_length n
  induction d with
  | zero =>
    intro i x hi hx h
    refine ev_succ ?_
    simp only [laws_markStringS.l0]
    rw [show x = marksT n from copy_end (marksT n) x (by rw [hml]; exact hx) (fun j hj => h j (by rw [hml] at hj; omega)), show (i : Int) = (n : Int) from by omega]
    exact ev_if_neg (by rw [hml]; omega) (ev_some _)
  | succ d ih =>
    intro i x hi hx h
    obtain ⟨hs1, hs2⟩ := copy_step (marksT n) x i ByteArray.empty (by rw [hml]; exact hx) (by rw [hml]; omega) h
    rw [marksT_get n i (by omega)] at hs1 hs2
    rw [hml] at hs1
    have := ih (i + 1) _ (by omega) hs1 hs2
    refine ev_succ ?_
    have w1 : Aside0 (wrap64 ((i : Int) + 1 + 1) = ((i + 1 : Nat) : Int) + 1) := ⟨(wrap_in (by omega) (by omega)).trans (by omega)⟩
    have w2 : Aside0 (wrap64 ((i : Int) + 1) = ((i + 1 : Nat) : Int)) := ⟨(wrap_in (by omega) (by omega)).trans (by omega)⟩
    simp only [laws_markStringS.l0, w1.out, w2.out, Int.toNat_natCast]
    exact ev_if_pos (by omega) (ev_bind (markText_ev _ (by omega)) (ev_if_pos (by omega) this))
theorem markStringS_ev (l : List ByteArray) (hl : l.length ≤ 100000000) : Ev (fun k => laws_markStringS.f k l 1) ((l.length : Int) + 1, marksT l.length) := by
  unfold laws_markStringS.f
  exact markStringS_from l.length l.length hl 0 l (by omega) rfl (fun j hj => absurd hj (by omega))
theorem heldStringS_from (n d : Nat) (hn : n ≤ 100000000) : ∀ i : Nat, i + d = n → Ev (fun k => laws_heldStringS.l0 k (marksT n) ((i : Int) + 1) (i : Int)) ((n : Int) + 1) := by
  have hml := marksT_length n
  induction d with
  | zero =>
    intro i hi
    refine ev_succ ?_
    simp only [laws_heldStringS.l0]
    rw [show (i : Int) = (n : Int) from by omega]
    exact ev_if_neg (by rw [hml]; omega) (ev_some _)
  | succ d ih =>
    intro i hi
    have := ih (i + 1) (by omega)
    refine ev_succ ?_
    have w1 : Aside0 (wrap64 ((i : Int) + 1 + 1) = ((i + 1 : Nat) : Int) + 1) := ⟨(wrap_in (by omega) (by omega)).trans (by omega)⟩
    have w2 : Aside0 (wrap64 ((i : Int) + 1) = ((i + 1 : Nat) : Int)) := ⟨(wrap_in (by omega) (by omega)).trans (by omega)⟩
    have hr : rdOf ByteArray.empty (marksT n) (i : Int) = markT ((i : Int) + 1) := by
      unfold rdOf
      rw [Int.toNat_natCast]
      exact marksT_get n i (by omega)
    simp only [laws_heldStringS.l0, w1.out, w2.out, hr]
    exact ev_if_pos (by rw [hml]; omega) (ev_if_pos (by omega) (ev_bind (markText_ev _ (by omega)) (ev_if_pos rfl this)))
theorem heldStringS_ev (n : Nat) (hn : n ≤ 100000000) : Ev (fun k => laws_heldStringS.f k (marksT n) 1) ((n : Int) + 1) := by
  unfold laws_heldStringS.f
  exact heldStringS_from n n hn 0 (by omega)

/-- All are of a hash's size. -/
def allH (l : List ByteArray) : Bool := !(l.any impl_isHash.p)
theorem isHash_eq (l : List ByteArray) : impl_isHash.f l = some (allH l) := rfl
theorem allH_mem (l : List ByteArray) (h : allH l = true) : ∀ x ∈ l, x.size = 32 := by
  intro x hx
  unfold allH at h
  rw [Bool.not_eq_true', List.any_eq_false] at h
  have := h x hx
  unfold impl_isHash.p at this
  simp at this
  omega
theorem hashes_from (l : List ByteArray) (hl : l.length ≤ 1000000) (d : Nat) : ∀ i : Nat, i + d = l.length → Ev (fun k => spec_l06Hashes.l0 k l (i : Int)) (allH (l.drop i)) := by
  induction d with
  | zero =>
    intro i hi
    rw [List.drop_eq_nil_of_le (by omega)]
    refine ev_succ ?_
    simp only [spec_l06Hashes.l0]
    exact ev_if_neg (by omega) (ev_some _)
  | succ d ih =>
    intro i hi
    have w2 : Aside0 (wrap64 ((i : Int) + 1) = ((i + 1 : Nat) : Int)) := ⟨(wrap_in (by omega) (by omega)).trans (by omega)⟩
    have hm : rdOf ByteArray.empty l (i : Int) = l[i]'(by omega) := by
      unfold rdOf
      rw [Int.toNat_natCast, List.getD_eq_getElem?_getD, List.getElem?_eq_getElem (by omega), Option.getD_some]
    have he : allH (l.drop i) = (decide ((l[i]'(by omega)).size = 32) && allH (l.drop (i + 1))) := by
      rw [List.drop_eq_getElem_cons (by omega)]
      unfold allH impl_isHash.p
      rw [List.any_cons, Bool.not_or]
      congr 1
      rw [Bool.eq_iff_iff]
      simp
      omega
    rw [he]
    refine ev_succ ?_
    simp only [spec_l06Hashes.l0, w2.out, hm]
    refine ev_if_pos (by omega) (ev_if_pos (by omega) ?_)
    by_cases h : (l[i]'(by omega)).size = 32
    · rw [decide_eq_true h, Bool.true_and]
      exact ev_if_pos (by omega) (ih (i + 1) (by omega))
    · rw [decide_eq_false h, Bool.false_and]
      exact ev_if_neg (by omega) (ev_some _)
theorem hashes_ev (l : List ByteArray) (hl : l.length ≤ 1000000) : Ev (fun k => spec_l06Hashes.f k l) (decide (l.length ≤ 64) && allH l) := by
  unfold spec_l06Hashes.f
  by_cases h : (l.length : Int) > 64
  · rw [decide_eq_false (by omega), Bool.false_and]
    exact ev_if_pos h (ev_some _)
  · rw [decide_eq_true (by omega), Bool.true_and]
    have := hashes_from l hl l.length 0 (by omega)
    exact ev_if_neg h this

def codeOf (l : List ByteArray) : Int := if (l.length : Int) > 4096 then 2 else if (decide (l.length ≤ 64) && allH l) = true then 0 else 1
theorem spec_code_ev (l : List ByteArray) (hl : l.length ≤ 1048576) : Ev (fun k => spec_l06Code.f k l) (codeOf l) := by
  unfold spec_l06Code.f codeOf
  by_cases h : (l.length : Int) > 4096
  · rw [if_pos h]
    exact ev_if_pos h (ev_some _)
  · rw [if_neg h]
    refine ev_if_neg h (ev_bind (hashes_ev l (by omega)) ?_)
    cases hX : (decide (l.length ≤ 64) && allH l)
    · simp only [Bool.false_eq_true, if_false]; exact ev_some _
    · simp only [if_true]; exact ev_some _
theorem impl_code (l : List ByteArray) : impl_leavesCode.f l = some (codeOf l) := by
  unfold impl_leavesCode.f codeOf impl_isList_string.f
  simp only [Option.bind_some, isHash_eq]
  by_cases h : (l.length : Int) > 4096
  · rw [if_pos h, if_neg (by simp; omega)]
  · rw [if_neg h, if_pos (by simp; omega)]
    by_cases h1 : (l.length : Int) > 64
    · rw [if_pos h1, if_neg (by simp; omega)]
    · rw [if_neg h1, decide_eq_true (by omega), Bool.true_and]
      cases allH l <;> rfl
theorem codeOf_zero (l : List ByteArray) (h : codeOf l = 0) : l.length ≤ 64 ∧ ∀ x ∈ l, x.size = 32 := by
  unfold codeOf at h
  split at h
  · omega
  · split at h
    · rename_i h1 h2
      simp only [Bool.and_eq_true, decide_eq_true_eq] at h2
      exact ⟨h2.1, allH_mem l h2.2⟩
    · omega

theorem within_is (a b c : Int) : impl_within.f a b c = some (decide (b ≤ a ∧ a ≤ c)) := by
  unfold impl_within.f
  split <;> simp only [Option.some.injEq] <;> rw [Bool.eq_iff_iff] <;> simp <;> omega
theorem in_is (a b c : Int) : spec_l01In.f a b c = some (decide (b ≤ a ∧ a ≤ c)) := by
  unfold spec_l01In.f
  split <;> simp only [Option.some.injEq] <;> rw [Bool.eq_iff_iff] <;> simp <;> omega

theorem both_ConsistencyProof (l : List ByteArray) (a : Int) (hl : l.length ≤ 1048576) (ha : -9223372036854775808 ≤ a ∧ a ≤ 9223372036854775807) :
    ∃ (r : List ByteArray) (e : Int), Ev (fun k => spec_ConsistencyProof.f k l a) (r, e) ∧ Ev (fun k => impl_ConsistencyProof.f k l a) (r, e) ∧ r.length ≤ 1048576 := by
  unfold spec_ConsistencyProof.f impl_ConsistencyProof.f
  rw [impl_code]
  simp only [Option.bind_some, within_is, in_is]
  by_cases h4 : (l.length : Int) > 4096
  · have hc : codeOf l = 2 := by unfold codeOf; rw [if_pos h4]
    rw [hc]
    exact ⟨[], 2, ev_if_pos h4 (ev_some _), ev_if_neg (by omega) (ev_some _), by simp⟩
  · by_cases hc : codeOf l = 0
    · obtain ⟨hc1, hc2⟩ := codeOf_zero l hc
      have hs : ∀ x ∈ l, x.size ≤ 100000000 := fun x hx => by have := hc2 x hx; omega
      by_cases hin : 1 ≤ a ∧ a ≤ (l.length : Int)
      · obtain ⟨i, rfl⟩ := Int.eq_ofNat_of_zero_le (show 0 ≤ a by omega)
        have hp := subF_length l.length l i true
        exact ⟨subF l.length l i true, 0, ev_if_neg h4 (ev_bind (spec_code_ev l hl) (ev_if_pos hc (ev_if_pos (decide_eq_true hin) (ev_bind (spec_sub_ev l.length l i true (by omega) (by omega) (by omega) (by omega) hs) (ev_some _))))),
          ev_if_pos hc (ev_if_pos (decide_eq_true hin) (ev_bind (impl_grow_ev l.length l i true (by omega) (by omega) (by omega) (by omega) hs) (ev_some _))), by omega⟩
      · exact ⟨[], 4, ev_if_neg h4 (ev_bind (spec_code_ev l hl) (ev_if_pos hc (ev_if_neg (by simp only [decide_eq_true_eq]; exact hin) (ev_some _)))), ev_if_pos hc (ev_if_neg (by simp only [decide_eq_true_eq]; exact hin) (ev_some _)), by simp⟩
    · exact ⟨[], codeOf l, ev_if_neg h4 (ev_bind (spec_code_ev l hl) (ev_if_neg hc (ev_some _))), ev_if_neg hc (ev_some _), by simp⟩
theorem FnExactConsistencyProof : laws_FnExactConsistencyProof.Pure := by
  intro l a hg hwf
  refine Ev.rounds (r := true) ?_
  unfold laws_FnExactConsistencyProof.f
  have ha : -9223372036854775808 ≤ a ∧ a ≤ 9223372036854775807 := by
    simp only [Lit.wf, Bool.and_eq_true, decide_eq_true_eq] at hwf
    have h1 : IntKind.i64.min = -9223372036854775808 := rfl
    have h2 : IntKind.i64.max = 9223372036854775807 := rfl
    omega
  obtain ⟨s, hs, hr⟩ := szStringS_ev l hg.1 hg.2 1048576 (by omega) (by omega)
  refine ev_bind hs ?_
  rcases hr with rfl | ⟨h0, h1, hl, hx⟩
  · exact ev_if_pos (by omega) (ev_some _)
  · have hl' : l.length ≤ 1048576 := by omega
    have ht := toStringS_ev l hl'
    have he := eqStringS_ev l (by omega)
    obtain ⟨r, e, hs, hi, hr⟩ := both_ConsistencyProof l a hl' ha
    have hq := eqStringS_ev r (by omega)
    have hm := markStringS_ev l (by omega)
    have hk := markStringS_ev r (by omega)
    have hh := heldStringS_ev r.length (by omega)
    refine ev_if_neg (by omega) (ev_bind ht (ev_bind hs (ev_bind ht (ev_bind hi (ev_bind hq (ev_if_pos (by first | rfl | trivial) (ev_succ ?_)))))))
    simp only [laws_FnExactConsistencyProof.j0]
    refine ev_if_neg (by simp) (ev_bind ht (ev_bind he (ev_if_pos (by first | rfl | trivial) (ev_bind hm (ev_if_neg (by simp only; omega) (ev_bind hq (ev_if_pos (by first | rfl | trivial) (ev_succ ?_))))))))
    simp only [laws_FnExactConsistencyProof.j1]
    refine ev_if_neg (by simp) (ev_bind hk (ev_bind hh (ev_if_neg (by omega) (ev_if_pos (by first | rfl | trivial) (ev_bind ht (ev_bind hi (ev_bind hq (ev_if_pos (by first | rfl | trivial) (ev_succ ?_)))))))))
    simp only [laws_FnExactConsistencyProof.j2]
    exact ev_if_neg (by simp) (ev_bind hh (ev_if_neg (by omega) (ev_if_pos (by first | rfl | trivial) (ev_some _))))
end Go.Proofs.Ytamjkgbimcpfaaa.Pure
