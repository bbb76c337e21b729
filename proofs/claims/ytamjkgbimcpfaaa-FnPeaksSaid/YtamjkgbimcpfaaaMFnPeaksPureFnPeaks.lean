/- Peaks that leaves are put behind have the hash of all of them, and are as many as their number has bits: the plain form. No conditions. -/
import Derived.Test.YtamjkgbimcpfaaaMFnPeaksPx7
import Derived.Test.YtamjkgbimcpfaaaMFnPeaksU
import Derived.Test.YtamjkgbimcpfaaaMFnPeaksMk
namespace Go.Proofs.Ytamjkgbimcpfaaa.Pure
open Go.RowKit Go.Proofs.Ytamjkgbimcpfaaa.PFnPeaks Go.Proofs.YtamjkgbimcpfaaaW.PrintWords Go.Proofs.YtamjkgbimcpfaaaW.PrintLast Go.Proofs.YtamjkgbimcpfaaaW.PrintMore Go.Proofs.Ytamjkgbimcpfaaa.U
set_option linter.unusedVariables false
set_option linter.unusedSimpArgs false
theorem hash_some (s : ByteArray) (h : s.size ≤ 1099511627776) : impl_hash.f s = some (Go.Proofs.Ytamjkgbimcpfaaa.Hash.sha s) := by
  unfold impl_hash.f
  rw [if_pos h]
theorem lhash_some (l : List Int) (hb : ∀ x ∈ l, 0 ≤ x ∧ x < 256) (h : l.length ≤ 1099511627776) : spec_l01Hash.f l = some (Go.Proofs.Ytamjkgbimcpfaaa.Hash.sha (strOfNums l)) := by
  unfold spec_l01Hash.f
  rw [if_pos h, Go.Proofs.Ytamjkgbimcpfaaa.SHash.shaL_eq l hb]
theorem bytesOf_len (s : ByteArray) : (bytesOf s).length = s.size := bytesOf_length s

/-- What two hashes come to. -/
def nodeOf (a b : ByteArray) : ByteArray := Go.Proofs.Ytamjkgbimcpfaaa.Hash.sha ((⟨#[1]⟩ : ByteArray) ++ a ++ b)
theorem nodeOf_size (a b : ByteArray) : (nodeOf a b).size = 32 := Go.Proofs.Ytamjkgbimcpfaaa.SHash.sha_size _
theorem impl_node (a b : ByteArray) (ha : a.size ≤ 100000000) (hb : b.size ≤ 100000000) : impl_nodeHash.f a b = some (nodeOf a b) := by
  unfold impl_nodeHash.f
  rw [if_pos (by omega), if_pos (by omega), hash_some _ (by rw [ByteArray.size_append, ByteArray.size_append]; show 1 + _ + _ ≤ _; omega)]
  rfl
theorem spec_node (a b : ByteArray) (ha : a.size ≤ 100000000) (hb : b.size ≤ 100000000) : spec_l06Node.f a b = some (nodeOf a b) := by
  unfold spec_l06Node.f
  simp only [Option.bind_some]
  rw [if_pos (by show 1 + _ < _; omega), if_pos (by rw [List.length_append, bytesOf_len]; show 1 + _ + _ < _; omega), lhash_some _ (fun x hx => by
    simp only [List.mem_append, List.mem_cons, List.not_mem_nil, or_false] at hx
    rcases hx with (rfl | h) | h
    · omega
    · exact bytesOf_range a x h
    · exact bytesOf_range b x h) (by rw [List.length_append, List.length_append, bytesOf_len, bytesOf_len]; show 1 + _ + _ ≤ _; omega)]
  rw [strOfNums_append, strOfNums_append, strOfNums_bytesOf, strOfNums_bytesOf]
  rfl

/-- The greatest power of two below a number above one. -/
def halfGo : Nat → Nat → Nat → Nat
  | 0, _, x => x
  | f + 1, n, x => if 2 * x < n then halfGo f n (2 * x) else x
def halfN (n : Nat) : Nat := halfGo n n 1
theorem halfGo_lt (f : Nat) : ∀ (n x : Nat), 1 ≤ x → x < n → 1 ≤ halfGo f n x ∧ halfGo f n x < n := by
  induction f with
  | zero => intro n x h1 h2; exact ⟨h1, h2⟩
  | succ f ih =>
    intro n x h1 h2
    unfold halfGo
    split
    · exact ih n (2 * x) (by omega) (by omega)
    · exact ⟨h1, h2⟩
theorem halfN_lt (n : Nat) (h : 2 ≤ n) : 1 ≤ halfN n ∧ halfN n < n := halfGo_lt n n 1 (by omega) (by omega)
theorem half_ev (f : Nat) : ∀ (n x : Nat), n ≤ 1000000 → 1 ≤ x → x ≤ 1000000 → n - x ≤ f → Ev (fun k => spec_l06Half.l0 k (n : Int) (x : Int)) ((halfGo f n x : Nat) : Int) := by
  induction f with
  | zero =>
    intro n x hn h1 h2 hf
    have w1 : wrap64 (2 * (x : Int)) = 2 * (x : Int) := wrap_in (by omega) (by omega)
    refine ev_succ ?_
    simp only [spec_l06Half.l0, w1]
    exact ev_if_neg (by omega) (ev_some _)
  | succ f ih =>
    intro n x hn h1 h2 hf
    have w1 : Aside0 (wrap64 (2 * (x : Int)) = 2 * (x : Int)) := ⟨wrap_in (by omega) (by omega)⟩
    have w2 : Aside0 (wrap64 ((x : Int) * 2) = ((2 * x : Nat) : Int)) := ⟨(wrap_in (by omega) (by omega)).trans (by omega)⟩
    refine ev_succ ?_
    simp only [spec_l06Half.l0, w1.out, w2.out, halfGo]
    by_cases h : 2 * x < n
    · rw [if_pos h]
      exact ev_if_pos (by omega) (ih n (2 * x) hn (by omega) (by omega) (by omega))
    · rw [if_neg h]
      exact ev_if_neg (by omega) (ev_some _)
theorem half_any (n : Nat) (hn : n ≤ 1000000) : Ev (fun k => spec_l06Half.f k (n : Int)) ((halfN n : Nat) : Int) := half_ev n n 1 hn (by omega) (by omega) (by omega)
/-- The hash of leaf hashes. -/
def treeOf (l : List ByteArray) : ByteArray :=
  if _h0 : l.length = 0 then Go.Proofs.Ytamjkgbimcpfaaa.Hash.sha ⟨#[]⟩
  else if _h1 : l.length = 1 then l.getD 0 ByteArray.empty
  else nodeOf (treeOf (l.take (halfN l.length))) (treeOf (l.drop (halfN l.length)))
  termination_by l.length
  decreasing_by
    · have := halfN_lt l.length (by omega)
      rw [List.length_take]
      omega
    · have := halfN_lt l.length (by omega)
      rw [List.length_drop]
      omega
theorem treeOf_zero (l : List ByteArray) (h : l.length = 0) : treeOf l = Go.Proofs.Ytamjkgbimcpfaaa.Hash.sha ⟨#[]⟩ := by rw [treeOf, dif_pos h]
theorem treeOf_one (l : List ByteArray) (h : l.length = 1) : treeOf l = l.getD 0 ByteArray.empty := by rw [treeOf, dif_neg (by omega), dif_pos h]
theorem treeOf_more (l : List ByteArray) (h : 2 ≤ l.length) : treeOf l = nodeOf (treeOf (l.take (halfN l.length))) (treeOf (l.drop (halfN l.length))) := by rw [treeOf, dif_neg (by omega), dif_neg (by omega)]
theorem rdOf_zero (l : List ByteArray) : rdOf ByteArray.empty l 0 = l.getD 0 ByteArray.empty := rfl
theorem getD_mem_size (l : List ByteArray) (n : Nat) (h : ∀ x ∈ l, x.size ≤ n) : (l.getD 0 ByteArray.empty).size ≤ n := by
  cases l with
  | nil => exact Nat.zero_le _
  | cons a t => exact h a List.mem_cons_self
theorem treeOf_size (l : List ByteArray) (h : ∀ x ∈ l, x.size ≤ 100000000) : (treeOf l).size ≤ 100000000 := by
  by_cases h0 : l.length = 0
  · rw [treeOf_zero l h0, Go.Proofs.Ytamjkgbimcpfaaa.SHash.sha_size]; omega
  · by_cases h1 : l.length = 1
    · rw [treeOf_one l h1]; exact getD_mem_size l _ h
    · rw [treeOf_more l (by omega), nodeOf_size]; omega
theorem spec_tree_ev (m : Nat) : ∀ l : List ByteArray, l.length ≤ m → l.length ≤ 1000000 → (∀ x ∈ l, x.size ≤ 100000000) → Ev (fun k => spec_l06Tree.f k l) (treeOf l) := by
  have hnil : spec_l01Hash.f [] = some (Go.Proofs.Ytamjkgbimcpfaaa.Hash.sha ⟨#[]⟩) := lhash_some [] (fun x hx => by simp at hx) (by show 0 ≤ _; omega)
  induction m with
  | zero =>
    intro l hm _ _
    rw [treeOf_zero l (by omega)]
    refine ev_succ ?_
    simp only [spec_l06Tree.f]
    refine ev_if_pos (by omega) ?_
    rw [hnil]
    exact ev_some _
  | succ m ih =>
    intro l hm hl hs
    refine ev_succ ?_
    simp only [spec_l06Tree.f]
    by_cases h0 : l.length = 0
    · rw [treeOf_zero l h0]
      refine ev_if_pos (by omega) ?_
      rw [hnil]
      exact ev_some _
    · by_cases h1 : l.length = 1
      · rw [treeOf_one l h1]
        exact ev_if_neg (by omega) (ev_if_pos (by omega) (ev_if_pos (by omega) (ev_some _)))
      · have hh := halfN_lt l.length (by omega)
        have h2 := ih (l.take (halfN l.length)) (by rw [List.length_take]; omega) (by rw [List.length_take]; omega) (fun x hx => hs x (List.mem_of_mem_take hx))
        have h3 := ih (l.drop (halfN l.length)) (by rw [List.length_drop]; omega) (by rw [List.length_drop]; omega) (fun x hx => hs x (List.mem_of_mem_drop hx))
        rw [treeOf_more l (by omega)]
        refine ev_if_neg (by omega) (ev_if_neg (by omega) (ev_bind (half_any l.length hl) (ev_if_pos (by omega) (ev_if_pos (by omega) ?_))))
        rw [Int.toNat_natCast]
        refine ev_bind h2 (ev_bind h3 ?_)
        rw [spec_node _ _ (treeOf_size _ fun x hx => hs x (List.mem_of_mem_take hx)) (treeOf_size _ fun x hx => hs x (List.mem_of_mem_drop hx))]
        exact ev_some _



theorem halfGo_mk (f : Nat) : ∀ n x : Nat, halfGo f n x = Go.Proofs.Ytamjkgbimcpfaaa.Mk.halfGo f n x := by
  induction f with
  | zero => intro n x; rfl
  | succ f ih =>
    intro n x
    simp only [halfGo, Go.Proofs.Ytamjkgbimcpfaaa.Mk.halfGo]
    split
    · exact ih n _
    · rfl
theorem half_mk (n : Nat) (hn : n ≤ 1000000) : Ev (fun k => spec_l06Half.f k (n : Int)) ((Go.Proofs.Ytamjkgbimcpfaaa.Mk.halfN n : Nat) : Int) := by
  have := half_any n hn
  unfold halfN at this
  rw [halfGo_mk] at this
  exact this
theorem node_mk (a b : ByteArray) (ha : a.size ≤ 100000000) (hb : b.size ≤ 100000000) : spec_l06Node.f a b = some (Go.Proofs.Ytamjkgbimcpfaaa.Mk.nodeOf a b) := spec_node a b ha hb
/-- How a list ends. -/
theorem rev_len (z : ByteArray) (ys : List ByteArray) : (z :: ys).reverse.length = ys.length + 1 := by simp
theorem rev_take (z : ByteArray) (ys : List ByteArray) : (z :: ys).reverse.take ys.length = ys.reverse := by
  rw [List.reverse_cons]
  exact List.take_left' (by simp)
theorem rev_last (z : ByteArray) (ys : List ByteArray) : rdOf ByteArray.empty (z :: ys).reverse (ys.length : Int) = z := by
  unfold rdOf
  rw [Int.toNat_natCast, List.getD_eq_getElem?_getD, List.reverse_cons, List.getElem?_append_right (by simp)]
  simp

theorem halfN_mk (n : Nat) : halfN n = Go.Proofs.Ytamjkgbimcpfaaa.Mk.halfN n := halfGo_mk n n 1

theorem halfGo_pow (f : Nat) : ∀ n x i : Nat, x = 2 ^ i → x < n → n - x ≤ f → ∃ j, halfGo f n x = 2 ^ j ∧ 2 ^ j < n ∧ n ≤ 2 ^ (j + 1) := by
  induction f with
  | zero => intro n x i hx h1 h2; omega
  | succ f ih =>
    intro n x i hx h1 h2
    have hp : 1 ≤ x := by rw [hx]; exact Nat.one_le_two_pow
    unfold halfGo
    split
    · exact ih n (2 * x) (i + 1) (by rw [hx, Nat.pow_succ]; omega) (by omega) (by omega)
    · exact ⟨i, hx, by omega, by rw [Nat.pow_succ]; omega⟩
theorem halfN_pow (n : Nat) (h : 2 ≤ n) : ∃ j, halfN n = 2 ^ j ∧ 2 ^ j < n ∧ n ≤ 2 ^ (j + 1) := halfGo_pow n n 1 0 rfl (by omega) (by omega)
theorem pow_one {i j m : Nat} (h1 : 2 ^ i < m) (h2 : m ≤ 2 ^ (i + 1)) (h3 : 2 ^ j < m) (h4 : m ≤ 2 ^ (j + 1)) : i = j := by
  have a : i < j + 1 := (Nat.pow_lt_pow_iff_right (by omega)).1 (Nat.lt_of_lt_of_le h1 h4)
  have b : j < i + 1 := (Nat.pow_lt_pow_iff_right (by omega)).1 (Nat.lt_of_lt_of_le h3 h2)
  omega
/-- A log's first leaves are parted where all of it is, if they reach so far. -/
theorem half_prefix (m n : Nat) (h1 : 2 ≤ n) (h2 : halfN n < m) (h3 : m ≤ n) : halfN m = halfN n := by
  obtain ⟨j, e, a, b⟩ := halfN_pow n h1
  have := halfN_lt n h1
  obtain ⟨i, e', a', b'⟩ := halfN_pow m (by omega)
  rw [e] at h2
  rw [e, e', pow_one a' b' h2 (Nat.le_trans h3 b)]
theorem nodeOf_mk (a b : ByteArray) : Go.Proofs.Ytamjkgbimcpfaaa.Mk.nodeOf a b = nodeOf a b := rfl

theorem isHash_one (h : ByteArray) : impl_isHash.f [h] = some (decide ((h.size : Int) = 32)) := by
  unfold impl_isHash.f impl_isHash.p
  simp only [List.any_cons, List.any_nil, Bool.or_false, Option.some.injEq]
  rw [Bool.eq_iff_iff]
  simp
/-- A peak that is right, by itself. -/
def pk (x : S86) : Bool := decide (1 ≤ x.f0 ∧ x.f0 ≤ 64) && decide (Go.bits .and .i64 x.f0 (wrap64 (x.f0 - 1)) = 0) && decide ((x.f1.size : Int) = 32)
/-- All hashes of a list of peaks are of a bearable size. -/
def BP (l : List S86) : Prop := ∀ x ∈ l, x.f1.size ≤ 100000000
theorem rdP_mem (l : List S86) (i : Nat) (h : i < l.length) : rd_T86 l (i : Int) ∈ l := by
  unfold rd_T86
  rw [Int.toNat_natCast, List.getD_eq_getElem?_getD, List.getElem?_eq_getElem h, Option.getD_some]
  exact List.getElem_mem _
theorem set_take (l : List S86) (n : Nat) (v : S86) (h : n + 2 = l.length) : (l.set n v).take (n + 1) = l.take n ++ [v] := by
  rw [List.take_succ_eq_append_getElem (by rw [List.length_set]; omega), List.getElem_set_self, List.take_set_of_le (by omega)]
/-- The sizes' sum, as both count it. -/
def sumW (l : List S86) (i : Nat) : Int := (List.range i).foldl (fun s j => wrap64 (s + (rd_T86 l ((j : Nat) : Int)).f0)) 0
theorem sumW_succ (l : List S86) (i : Nat) : sumW l (i + 1) = wrap64 (sumW l i + (rd_T86 l (i : Int)).f0) := by simp [sumW, List.range_succ]
theorem isText_one' (a : ByteArray) : impl_isText.f [a] = some (!decide ((a.size : Int) > 65536)) := by
  unfold impl_isText.f impl_isText.p
  simp only [List.any_cons, List.any_nil, Bool.or_false]
theorem impl_sum (l : List S86) (hl : l.length ≤ 1048576) (a : ByteArray) (R : List S86 × Int) (h : Ev (fun k => impl_AddPeak.l0 k l a (sumW l l.length) l (l.length : Int) (l.length : Int)) R) (d : Nat) : ∀ i : Nat, i + d = l.length → Ev (fun k => impl_AddPeak.l0 k l a (sumW l i) l (l.length : Int) (i : Int)) R := by
  induction d with
  | zero =>
    intro i hi
    rw [show i = l.length by omega]
    exact h
  | succ d ih =>
    intro i hi
    have := ih (i + 1) (by omega)
    rw [sumW_succ] at this
    have w3 : Aside0 (wrap64 ((i : Int) + 1) = ((i + 1 : Nat) : Int)) := ⟨(wrap_in (by omega) (by omega)).trans (by omega)⟩
    refine ev_succ ?_
    simp only [impl_AddPeak.l0, w3.out]
    exact ev_if_pos (by omega) (ev_if_pos (by omega) (ev_if_pos (by omega) this))
/-- What a drawn source is: how far it has been read, and a seed. -/
def SrcOK (c : List Int) (a b : Int) (n : Nat) : Prop := 0 ≤ a ∧ a ≤ (n : Int) ∧ 0 ≤ b ∧ b < 2147483648
/-- One more byte. -/
theorem byte_src (c : List Int) (hc : ∀ x ∈ c, 0 ≤ x ∧ x < 256) (a b : Int) (n : Nat) (hn : n ≤ 10000) (h : SrcOK c a b n) : ∃ r a' b', spec_l00Src_byte.f c a b = some (r, a', b') ∧ 0 ≤ r ∧ r < 256 ∧ SrcOK c a' b' (n + 1) := by
  obtain ⟨h1, h2, h3, h4⟩ := h
  unfold spec_l00Src_byte.f
  rw [if_pos ⟨h1, by omega, h3, h4⟩]
  by_cases g : a + 1 ≤ (c.length : Int)
  · have hr : 0 ≤ rd c a ∧ rd c a < 256 := by
      obtain ⟨i, rfl⟩ := Int.eq_ofNat_of_zero_le h1
      unfold rd
      rw [Int.toNat_natCast, List.getD_eq_getElem?_getD, List.getElem?_eq_getElem (by omega), Option.getD_some]
      exact hc _ (List.getElem_mem _)
    rw [if_pos g, if_pos hr]
    exact ⟨_, _, _, rfl, hr.1, hr.2, by omega, by omega, by omega, by omega⟩
  · rw [if_neg g]
    by_cases g2 : 3000 < a + 1
    · rw [if_pos g2]
      exact ⟨_, _, _, rfl, by omega, by omega, by omega, by omega, h3, h4⟩
    · rw [if_neg g2]
      exact ⟨_, _, _, rfl, by omega, by omega, by omega, by omega, by omega, by omega⟩
/-- One of 0 to m - 1. -/
theorem next_src (c : List Int) (hc : ∀ x ∈ c, 0 ≤ x ∧ x < 256) (a b : Int) (n : Nat) (hn : n ≤ 9000) (m : Int) (hm1 : 1 ≤ m) (hm : m ≤ 256) (h : SrcOK c a b n) : ∃ r a' b', spec_l00Src_next.f c a b m = some (r, a', b') ∧ 0 ≤ r ∧ r < m ∧ SrcOK c a' b' (n + 1) := by
  unfold spec_l00Src_next.f
  by_cases g : m ≤ 1
  · rw [if_pos g]
    obtain ⟨h1, h2, h3, h4⟩ := h
    exact ⟨0, a, b, rfl, Int.le_refl _, by omega, h1, by omega, h3, h4⟩
  · rw [if_neg g, if_pos hm]
    obtain ⟨r, a', b', e, r0, r1, h'⟩ := byte_src c hc a b n (by omega) h
    rw [e]
    simp only [Option.bind_some]
    rw [if_neg (by omega)]
    have ht : Int.tmod r m = r % m := Int.tmod_eq_emod_of_nonneg r0
    rw [ht]
    exact ⟨_, _, _, rfl, Int.emod_nonneg _ (by omega), Int.emod_lt_of_pos _ (by omega), h'⟩
theorem chance_src (c : List Int) (hc : ∀ x ∈ c, 0 ≤ x ∧ x < 256) (a b : Int) (n : Nat) (hn : n ≤ 9000) (m : Int) (hm1 : 1 ≤ m) (hm : m ≤ 256) (h : SrcOK c a b n) : ∃ r a' b', spec_l00Src_chance.f c a b m = some (r, a', b') ∧ SrcOK c a' b' (n + 1) := by
  obtain ⟨r, a', b', e, r0, r1, h'⟩ := next_src c hc a b n hn m hm1 hm h
  unfold spec_l00Src_chance.f
  rw [e]
  exact ⟨_, _, _, rfl, h'⟩


theorem leaf_size (s : ByteArray) (hs : s.size ≤ 100000000) : ∃ r, spec_l06Leaf.f s = some r ∧ r.size = 32 := by
  unfold spec_l06Leaf.f
  simp only [Option.bind_some]
  rw [if_pos (by show 1 + _ < _; omega), lhash_some _ (fun x hx => by
    simp only [List.mem_append, List.mem_cons, List.not_mem_nil, or_false] at hx
    rcases hx with rfl | h
    · omega
    · exact bytesOf_range s x h) (by rw [List.length_append, bytesOf_length]; show 1 + _ ≤ _; omega)]
  exact ⟨_, rfl, Go.Proofs.Ytamjkgbimcpfaaa.SHash.sha_size _⟩
/-- All are hashes. -/
def All32 (l : List ByteArray) : Prop := ∀ x ∈ l, x.size = 32
theorem All32.snoc {l : List ByteArray} {x : ByteArray} (h : All32 l) (hx : x.size = 32) : All32 (l ++ [x]) := by
  intro y hy
  rcases List.mem_append.1 hy with h1 | h1
  · exact h y h1
  · rw [List.mem_singleton.1 h1]; exact hx
theorem leaves_l1 (c : List Int) (hc : ∀ x ∈ c, 0 ≤ x ∧ x < 256) (d : Nat) : ∀ (l : List ByteArray) (a b : Int) (n : Nat), All32 l → 66 ≤ l.length + d → l.length ≤ 1000 → n + d ≤ 8000 → SrcOK c a b n →
    ∃ r a' b', Ev (fun k => spec_l00Src_leaves.l1 k l c a b) (r, a', b') ∧ All32 r ∧ r.length ≤ 2000 := by
  induction d with
  | zero =>
    intro l a b n hl hd hb hn hs
    obtain ⟨r, a', b', e, r0, r1, h'⟩ := next_src c hc a b n (by omega) 2 (by omega) (by omega) hs
    have w : wrap64 (64 + r) = 64 + r := wrap_in (by omega) (by omega)
    refine ⟨l, a', b', ev_succ ?_, hl, by omega⟩
    simp only [spec_l00Src_leaves.l1, e, Option.bind_some, w]
    exact ev_if_neg (by omega) (ev_some _)
  | succ d ih =>
    intro l a b n hl hd hb hn hs
    obtain ⟨r, a', b', e, r0, r1, h'⟩ := next_src c hc a b n (by omega) 2 (by omega) (by omega) hs
    have w : wrap64 (64 + r) = 64 + r := wrap_in (by omega) (by omega)
    by_cases hlen : (l.length : Int) < 64 + r
    · cases l with
      | nil =>
        obtain ⟨x, ex, sx⟩ := leaf_size (⟨#[]⟩ : ByteArray) (Nat.zero_le _)
        obtain ⟨r2, a2, b2, e2, hr2, hl2⟩ := ih [x] a' b' (n + 1) (All32.snoc (l := []) (fun y hy => by simp at hy) sx) (by simp only [List.length_cons, List.length_nil] at hd ⊢; omega) (by simp) (by omega) h'
        refine ⟨r2, a2, b2, ev_succ ?_, hr2, hl2⟩
        simp only [spec_l00Src_leaves.l1, e, Option.bind_some, w]
        refine ev_if_pos hlen (ev_if_pos (by simp [mn]) (ev_if_pos (by simp [mn]) (ev_if_pos (by simp) ?_)))
        refine ev_if_pos (by simp) ?_
        rw [ex]
        simp only [Option.bind_some]
        exact ev_if_pos (by simp) e2
      | cons x t =>
        have hx : x.size = 32 := hl x List.mem_cons_self
        obtain ⟨r2, a2, b2, e2, hr2, hl2⟩ := ih (x :: t ++ [x]) a' b' (n + 1) (All32.snoc hl hx) (by simp only [List.length_append, List.length_cons, List.length_nil] at hd ⊢; omega) (by simp only [List.length_append, List.length_cons, List.length_nil] at hlen ⊢; omega) (by omega) h'
        refine ⟨r2, a2, b2, ev_succ ?_, hr2, hl2⟩
        simp only [spec_l00Src_leaves.l1, e, Option.bind_some, w]
        have hmn : mn 1 ((x :: t).length : Int) = 1 := by
          have h1 : 1 ≤ (x :: t).length := by simp
          generalize (x :: t).length = q at h1 ⊢
          unfold mn
          split <;> omega
        simp only [hmn]
        refine ev_if_pos hlen (ev_if_pos (by omega) (ev_if_pos (by simp only [List.length_cons]; omega) (ev_if_pos (by simp only [List.length_cons] at hb ⊢; simp; omega) ?_)))
        refine ev_if_neg (by simp; omega) ?_
        exact e2
    · refine ⟨l, a', b', ev_succ ?_, hl, by omega⟩
      simp only [spec_l00Src_leaves.l1, e, Option.bind_some, w]
      exact ev_if_neg hlen (ev_some _)
theorem leaves_l0 (c : List Int) (hc : ∀ x ∈ c, 0 ≤ x ∧ x < 256) (d : Nat) : ∀ (l : List ByteArray) (i a b : Int) (n : Nat), i ≤ (d : Int) → All32 l → l.length + d ≤ 900 → n + d ≤ 7000 → SrcOK c a b n →
    ∃ r a' b', Ev (fun k => spec_l00Src_leaves.l0 k l i c a b) (r, a', b') ∧ All32 r ∧ r.length ≤ 2000 := by
  have done_ : ∀ (l : List ByteArray) (i a b : Int) (n : Nat), ¬ i > 0 → All32 l → l.length ≤ 900 → n ≤ 7000 → SrcOK c a b n → ∃ r a' b', Ev (fun k => spec_l00Src_leaves.l0 k l i c a b) (r, a', b') ∧ All32 r ∧ r.length ≤ 2000 := by
    intro l i a b n hi hl hb hn hs
    obtain ⟨q, a', b', e, h'⟩ := chance_src c hc a b n (by omega) 40 (by omega) (by omega) hs
    cases q with
    | false =>
      refine ⟨l, a', b', ev_succ ?_, hl, by omega⟩
      simp only [spec_l00Src_leaves.l0, e, Option.bind_some]
      exact ev_if_neg hi (ev_if_neg (by simp) (ev_some _))
    | true =>
      obtain ⟨r2, a2, b2, e2, hr2, hl2⟩ := leaves_l1 c hc 66 l a' b' (n + 1) hl (by omega) (by omega) (by omega) h'
      refine ⟨r2, a2, b2, ev_succ ?_, hr2, hl2⟩
      simp only [spec_l00Src_leaves.l0, e, Option.bind_some]
      exact ev_if_neg hi (ev_if_pos (by first | rfl | trivial) e2)
  induction d with
  | zero => intro l i a b n hi hl hb hn hs; exact done_ l i a b n (by omega) hl (by omega) (by omega) hs
  | succ d ih =>
    intro l i a b n hi hl hb hn hs
    by_cases g : i > 0
    · obtain ⟨q, a', b', e, q0, q1, h'⟩ := next_src c hc a b n (by omega) 3 (by omega) (by omega) hs
      obtain ⟨x, ex, sx⟩ := leaf_size (strOfNums [i % 256, q % 256]) (by rw [size_strOfNums]; simp)
      have w : wrap64 (i - 1) = i - 1 := wrap_in (by omega) (by omega)
      obtain ⟨r2, a2, b2, e2, hr2, hl2⟩ := ih (l ++ [x]) (i - 1) a' b' (n + 1) (by omega) (hl.snoc sx) (by simp only [List.length_append, List.length_cons, List.length_nil]; omega) (by omega) h'
      refine ⟨r2, a2, b2, ev_succ ?_, hr2, hl2⟩
      simp only [spec_l00Src_leaves.l0, e, Option.bind_some, ex, w]
      exact ev_if_pos g (ev_if_pos (by omega) e2)
    · exact done_ l i a b n g hl (by omega) (by omega) hs
theorem src_new (c : List Int) : SrcOK c 0 ((c.length : Int) % 1000) 0 := by
  generalize (c.length : Int) = q
  have h1 := Int.emod_nonneg q (b := 1000) (by omega)
  have h2 := Int.emod_lt_of_pos q (b := 1000) (by omega)
  generalize q % 1000 = z at h1 h2 ⊢
  exact ⟨Int.le_refl _, Int.le_refl _, h1, by omega⟩
theorem source_some (c : List Int) : ∃ z, spec_l00Source.f c = some (c, 0, z) ∧ SrcOK c 0 z 0 := ⟨_, rfl, src_new c⟩
theorem leaves_ev (c : List Int) (hc : ∀ x ∈ c, 0 ≤ x ∧ x < 256) (a b : Int) (h : SrcOK c a b 0) : ∃ r a' b', Ev (fun k => spec_l00Src_leaves.f k c a b) (r, a', b') ∧ All32 r ∧ r.length ≤ 2000 := by
  obtain ⟨q, a1, b1, e1, q0, q1, h1⟩ := next_src c hc a b 0 (by omega) 3 (by omega) (by omega) h
  have hrd : 1 ≤ rd [4, 10, 20] q ∧ rd [4, 10, 20] q ≤ 20 := by
    have : q = 0 ∨ q = 1 ∨ q = 2 := by omega
    rcases this with rfl | rfl | rfl <;> simp [rd]
  obtain ⟨q2, a2, b2, e2, p0, p1, h2⟩ := next_src c hc a1 b1 1 (by omega) (rd [4, 10, 20] q) hrd.1 (by omega) h1
  obtain ⟨r, a3, b3, e3, hr, hl3⟩ := leaves_l0 c hc 20 [] q2 a2 b2 2 (by omega) (fun y hy => by simp at hy) (by simp) (by omega) h2
  refine ⟨r, a3, b3, ?_, hr, hl3⟩
  unfold spec_l00Src_leaves.f
  rw [e1]
  simp only [Option.bind_some, e2]
  exact ev_if_pos q0 (ev_if_pos (by simpa using q1) e3)
/-- A drawn log has at most 40 leaves, and each is a hash. -/
theorem leavesOf_ev (c : List Int) (hc : ∀ x ∈ c, 0 ≤ x ∧ x < 256) : ∃ r, Ev (fun k => spec_LeavesOf.f k c) r ∧ All32 r ∧ r.length ≤ 40 := by
  obtain ⟨z, ez, hs⟩ := source_some c
  obtain ⟨r, a3, b3, e3, hr, hl3⟩ := leaves_ev c hc 0 z hs
  have hmn : 0 ≤ mn 40 (r.length : Int) ∧ mn 40 (r.length : Int) ≤ (r.length : Int) ∧ mn 40 (r.length : Int) ≤ 40 := by unfold mn; split <;> omega
  refine ⟨r.take (mn 40 (r.length : Int)).toNat, ?_, fun y hy => hr y (List.mem_of_mem_take hy), by rw [List.length_take]; omega⟩
  unfold spec_LeavesOf.f
  rw [ez]
  simp only [Option.bind_some]
  exact ev_bind e3 (ev_if_pos hmn.1 (ev_if_pos hmn.2.1 (ev_some _)))
/-- All are of a hash's size. -/
def allH (l : List ByteArray) : Bool := !(l.any impl_isHash.p)
theorem isHash_eq (l : List ByteArray) : impl_isHash.f l = some (allH l) := rfl
theorem allH_mem (l : List ByteArray) (h : allH l = true) : ∀ x ∈ l, x.size = 32 := by
  intro x hx
  unfold allH at h
  rw [Bool.not_eq_true', List.any_eq_false] at h
  have := h x hx
  unfold impl_isHash.p at this
  simp at this
  omega
theorem hashes_from (l : List ByteArray) (hl : l.length ≤ 1000000) (d : Nat) : ∀ i : Nat, i + d = l.length → Ev (fun k => spec_l06Hashes.l0 k l (i : Int)) (allH (l.drop i)) := by
  induction d with
  | zero =>
    intro i hi
    rw [List.drop_eq_nil_of_le (by omega)]
    refine ev_succ ?_
    simp only [spec_l06Hashes.l0]
    exact ev_if_neg (by omega) (ev_some _)
  | succ d ih =>
    intro i hi
    have w2 : Aside0 (wrap64 ((i : Int) + 1) = ((i + 1 : Nat) : Int)) := ⟨(wrap_in (by omega) (by omega)).trans (by omega)⟩
    have hm : rdOf ByteArray.empty l (i : Int) = l[i]'(by omega) := by
      unfold rdOf
      rw [Int.toNat_natCast, List.getD_eq_getElem?_getD, List.getElem?_eq_getElem (by omega), Option.getD_some]
    have he : allH (l.drop i) = (decide ((l[i]'(by omega)).size = 32) && allH (l.drop (i + 1))) := by
      rw [List.drop_eq_getElem_cons (by omega)]
      unfold allH impl_isHash.p
      rw [List.any_cons, Bool.not_or]
      congr 1
      rw [Bool.eq_iff_iff]
      simp
      omega
    rw [he]
    refine ev_succ ?_
    simp only [spec_l06Hashes.l0, w2.out, hm]
    refine ev_if_pos (by omega) (ev_if_pos (by omega) ?_)
    by_cases h : (l[i]'(by omega)).size = 32
    · rw [decide_eq_true h, Bool.true_and]
      exact ev_if_pos (by omega) (ih (i + 1) (by omega))
    · rw [decide_eq_false h, Bool.false_and]
      exact ev_if_neg (by omega) (ev_some _)
theorem hashes_ev (l : List ByteArray) (hl : l.length ≤ 1000000) : Ev (fun k => spec_l06Hashes.f k l) (decide (l.length ≤ 64) && allH l) := by
  unfold spec_l06Hashes.f
  by_cases h : (l.length : Int) > 64
  · rw [decide_eq_false (by omega), Bool.false_and]
    exact ev_if_pos h (ev_some _)
  · rw [decide_eq_true (by omega), Bool.true_and]
    have := hashes_from l hl l.length 0 (by omega)
    exact ev_if_neg h this

def codeOf (l : List ByteArray) : Int := if (l.length : Int) > 4096 then 2 else if (decide (l.length ≤ 64) && allH l) = true then 0 else 1
theorem spec_code_ev (l : List ByteArray) (hl : l.length ≤ 1048576) : Ev (fun k => spec_l06Code.f k l) (codeOf l) := by
  unfold spec_l06Code.f codeOf
  by_cases h : (l.length : Int) > 4096
  · rw [if_pos h]
    exact ev_if_pos h (ev_some _)
  · rw [if_neg h]
    refine ev_if_neg h (ev_bind (hashes_ev l (by omega)) ?_)
    cases hX : (decide (l.length ≤ 64) && allH l)
    · simp only [Bool.false_eq_true, if_false]; exact ev_some _
    · simp only [if_true]; exact ev_some _
theorem codeOf_zero (l : List ByteArray) (h : codeOf l = 0) : l.length ≤ 64 ∧ ∀ x ∈ l, x.size = 32 := by
  unfold codeOf at h
  split at h
  · omega
  · split at h
    · rename_i h1 h2
      simp only [Bool.and_eq_true, decide_eq_true_eq] at h2
      exact ⟨h2.1, allH_mem l h2.2⟩
    · omega


theorem All32.allH {l : List ByteArray} (h : All32 l) : allH l = true := by
  unfold Pure.allH impl_isHash.p
  rw [Bool.not_eq_true', List.any_eq_false]
  intro x hx
  have := h x hx
  simp
  omega
theorem All32.take {l : List ByteArray} (h : All32 l) (n : Nat) : All32 (l.take n) := fun x hx => h x (List.mem_of_mem_take hx)
theorem codeOf_32 (l : List ByteArray) (h : All32 l) (hl : l.length ≤ 40) : codeOf l = 0 := by
  unfold codeOf
  rw [if_neg (by omega), if_pos (by simp [h.allH]; omega)]
theorem treeOf_32 (l : List ByteArray) (h : All32 l) (h1 : 1 ≤ l.length) : (treeOf l).size = 32 := by
  by_cases g : l.length = 1
  · rw [treeOf_one l g]
    cases l with
    | nil => simp at g
    | cons x t => exact h x List.mem_cons_self
  · rw [treeOf_more l (by omega), nodeOf_size]
theorem All32.drop {l : List ByteArray} (h : All32 l) (n : Nat) : All32 (l.drop n) := fun x hx => h x (List.mem_of_mem_drop hx)

/-- Trees of falling sizes over leaves, put behind one another. -/
inductive RP : List S86 → List ByteArray → Prop
  | nil : RP [] []
  | snoc {ps : List S86} {l : List ByteArray} (t : List ByteArray) (e : Nat) (h : RP ps l) (ht : t.length = 2 ^ e) (hd : 2 ^ (e + 1) ∣ l.length) : RP (ps ++ [(⟨((2 ^ e : Nat) : Int), treeOf t⟩ : S86)]) (l ++ t)
theorem RP.parts {ps : List S86} {l : List ByteArray} (h : RP ps l) : (ps = [] ∧ l = []) ∨ ∃ ps' l' t e, ps = ps' ++ [(⟨((2 ^ e : Nat) : Int), treeOf t⟩ : S86)] ∧ l = l' ++ t ∧ RP ps' l' ∧ t.length = 2 ^ e ∧ 2 ^ (e + 1) ∣ l'.length := by
  cases h with
  | nil => exact .inl ⟨rfl, rfl⟩
  | snoc t e h ht hd => exact .inr ⟨_, _, t, e, rfl, rfl, h, ht, hd⟩
theorem two_pos (e : Nat) : 1 ≤ 2 ^ e := Nat.one_le_two_pow
theorem dvd_le {m e j : Nat} (hd : 2 ^ (e + 1) ∣ m) (hj : 2 ^ j ∣ m + 2 ^ e) : j ≤ e := by
  apply Decidable.byContradiction
  intro hn
  have h1 : 2 ^ (e + 1) ∣ 2 ^ j := Nat.pow_dvd_pow 2 (by omega)
  have h2 : 2 ^ (e + 1) ∣ 2 ^ e := (Nat.dvd_add_right hd).1 (Nat.dvd_trans h1 hj)
  have h3 := Nat.le_of_dvd (two_pos e) h2
  have := two_pos e
  rw [Nat.pow_succ] at h3
  omega
theorem tree_join (a b : List ByteArray) (e : Nat) (ha : a.length = 2 ^ e) (h1 : 1 ≤ b.length) (h2 : b.length ≤ 2 ^ e) : treeOf (a ++ b) = nodeOf (treeOf a) (treeOf b) := by
  have hp := two_pos e
  have hl : (a ++ b).length = 2 ^ e + b.length := by rw [List.length_append, ha]
  obtain ⟨j, ej, g1, g2⟩ := halfN_pow (a ++ b).length (by omega)
  have hj : j = e := pow_one g1 g2 (by omega) (by rw [Nat.pow_succ]; omega)
  rw [treeOf_more _ (by omega), ej, hj, List.take_left' ha, List.drop_left' ha]
theorem fold_RP {ps : List S86} {l : List ByteArray} (h : RP ps l) : ∀ (t : List ByteArray) (j : Nat), 1 ≤ t.length → t.length ≤ 2 ^ j → 2 ^ j ∣ l.length → ps.reverse.foldl (fun q x => Go.Proofs.Ytamjkgbimcpfaaa.Mk.nodeOf x.f1 q) (treeOf t) = treeOf (l ++ t) := by
  induction h with
  | nil => intro t j h1 h2 h3; rfl
  | snoc t' e h ht hd ih =>
    intro t j h1 h2 h3
    have hp := two_pos e
    rw [List.length_append, ht] at h3
    have hje := dvd_le hd h3
    have hle : t.length ≤ 2 ^ e := Nat.le_trans h2 (Nat.pow_le_pow_right (by omega) hje)
    rw [List.reverse_append]
    simp only [List.reverse_cons, List.reverse_nil, List.nil_append, List.cons_append, List.foldl_cons]
    rw [nodeOf_mk, ← tree_join t' t e ht h1 hle, ih (t' ++ t) (e + 1) (by rw [List.length_append]; omega) (by rw [List.length_append, ht, Nat.pow_succ]; omega) hd, List.append_assoc]
theorem rdP_old (ps : List S86) (p : S86) (j : Nat) (h : j < ps.length) : rd_T86 (ps ++ [p]) (j : Int) = rd_T86 ps (j : Int) := by
  unfold rd_T86
  rw [Int.toNat_natCast, List.getD_eq_getElem?_getD, List.getD_eq_getElem?_getD, List.getElem?_append_left h]
theorem rdP_new (ps : List S86) (p : S86) : rd_T86 (ps ++ [p]) (ps.length : Int) = p := by
  unfold rd_T86
  rw [Int.toNat_natCast, List.getD_eq_getElem?_getD, List.getElem?_append_right (Nat.le_refl _)]
  simp
theorem sumW_old (ps : List S86) (p : S86) (n : Nat) : n ≤ ps.length → sumW (ps ++ [p]) n = sumW ps n := by
  induction n with
  | zero => intro _; rfl
  | succ n ih => intro h; rw [sumW_succ, sumW_succ, ih (by omega), rdP_old ps p n (by omega)]
/-- The sizes' sum is how many leaves there are; there are no more peaks than leaves. -/
theorem RP.sum {ps : List S86} {l : List ByteArray} (h : RP ps l) : l.length ≤ 1000000 → sumW ps ps.length = (l.length : Int) ∧ ps.length ≤ l.length := by
  induction h with
  | nil => intro _; exact ⟨rfl, Nat.le_refl _⟩
  | snoc t e h ht hd ih =>
    intro hl
    rw [List.length_append] at hl
    have hp := two_pos e
    obtain ⟨h1, h2⟩ := ih (by omega)
    rename_i ps l
    rw [List.length_append, List.length_append]
    refine ⟨?_, by simp only [List.length_cons, List.length_nil]; omega⟩
    show sumW (ps ++ [_]) (ps.length + 1) = _
    rw [sumW_succ, sumW_old _ _ _ (Nat.le_refl _), h1, rdP_new]
    show wrap64 ((l.length : Int) + ((2 ^ e : Nat) : Int)) = _
    rw [wrap_in (by omega) (by omega)]
    omega
/-- Each peak is right. -/
theorem RP.each {ps : List S86} {l : List ByteArray} (h : RP ps l) : All32 l → ∀ j : Nat, j < ps.length → ∃ e, (rd_T86 ps (j : Int)).f0 = ((2 ^ e : Nat) : Int) ∧ 2 ^ e ≤ l.length ∧ (0 < j → (rd_T86 ps (j : Int)).f0 < (rd_T86 ps ((j : Int) - 1)).f0) ∧ (rd_T86 ps (j : Int)).f1.size = 32 := by
  induction h with
  | nil => intro _ j hj; exact absurd hj (Nat.not_lt_zero _)
  | snoc t e h ht hd ih =>
    intro ha j hj
    rename_i ps l
    have hal : All32 l := fun x hx => ha x (List.mem_append_left _ hx)
    have hat : All32 t := fun x hx => ha x (List.mem_append_right _ hx)
    have hp := two_pos e
    rw [List.length_append] at hj ⊢
    rcases Nat.lt_or_ge j ps.length with hlt | hge
    · obtain ⟨q, e1, e2, e3, e4⟩ := ih hal j hlt
      rw [rdP_old _ _ _ hlt]
      refine ⟨q, e1, by omega, fun h0 => ?_, e4⟩
      have := e3 h0
      rw [show ((j : Int) - 1) = ((j - 1 : Nat) : Int) by omega] at this ⊢
      rw [rdP_old _ _ _ (by omega)]
      exact this
    · obtain rfl : j = ps.length := by simp only [List.length_cons, List.length_nil] at hj; omega
      rw [rdP_new]
      refine ⟨e, rfl, by omega, fun h0 => ?_, treeOf_32 t hat (by omega)⟩
      rcases h.parts with ⟨rfl, _⟩ | ⟨ps', l', t', e', rfl, rfl, h', ht', hd'⟩
      · exact absurd h0 (by simp)
      · have hl : (ps' ++ [(⟨((2 ^ e' : Nat) : Int), treeOf t'⟩ : S86)]).length = ps'.length + 1 := by rw [List.length_append]; rfl
        rw [show (((ps' ++ [(⟨((2 ^ e' : Nat) : Int), treeOf t'⟩ : S86)]).length : Int) - 1) = ((ps'.length : Nat) : Int) by rw [hl]; omega]
        rw [rdP_old _ _ _ (by rw [hl]; omega), rdP_new]
        rw [List.length_append, ht'] at hd
        have hee := dvd_le hd' hd
        have h3 : 2 ^ e < 2 ^ e' := Nat.pow_lt_pow_right (by omega) (by omega)
        show ((2 ^ e : Nat) : Int) < ((2 ^ e' : Nat) : Int)
        omega
theorem bits_pow (e : Nat) (h : 2 ^ e ≤ 64) : Go.bits .and .i64 ((2 ^ e : Nat) : Int) (wrap64 (((2 ^ e : Nat) : Int) - 1)) = 0 := by
  have he : e < 7 := (Nat.pow_lt_pow_iff_right (a := 2) (by omega)).1 (Nat.lt_of_le_of_lt h (by decide))
  have : e = 0 ∨ e = 1 ∨ e = 2 ∨ e = 3 ∨ e = 4 ∨ e = 5 ∨ e = 6 := by omega
  have hp := two_pos e
  rw [wrap_in (by omega) (by omega)]
  rcases this with rfl | rfl | rfl | rfl | rfl | rfl | rfl <;> rfl
theorem within_yes (a b c : Int) (h1 : b ≤ a) (h2 : a ≤ c) : impl_within.f a b c = some true := by
  unfold impl_within.f
  rw [if_pos (by omega)]
  simp [h2]
theorem peaksOK_from (ps : List S86) (l : List ByteArray) (h : RP ps l) (ha : All32 l) (hl : l.length ≤ 64) (d : Nat) : ∀ i : Nat, i + d = ps.length → Ev (fun k => impl_PeaksOK.l0 k ps (sumW ps i) ps (ps.length : Int) (i : Int)) true := by
  obtain ⟨hs, hn⟩ := h.sum (by omega)
  induction d with
  | zero =>
    intro i hi
    obtain rfl : i = ps.length := by omega
    refine ev_succ ?_
    simp only [impl_PeaksOK.l0]
    rw [hs, decide_eq_true (by omega)]
    exact ev_if_neg (by omega) (ev_some _)
  | succ d ih =>
    intro i hi
    have hr := ih (i + 1) (by omega)
    rw [sumW_succ] at hr
    obtain ⟨e, e1, e2, e3, e4⟩ := h.each ha i (by omega)
    have hw : wrap64 ((i : Int) + 1) = ((i + 1 : Nat) : Int) := by rw [wrap_in (by omega) (by omega)]; omega
    have hb := bits_pow e (by omega)
    rw [← e1] at hb
    have hp := two_pos e
    have hin := within_yes (rd_T86 ps (i : Int)).f0 1 64 (by omega) (by omega)
    have hh : impl_isHash.f [(rd_T86 ps (i : Int)).f1] = some true := by rw [isHash_one, decide_eq_true (by omega)]
    refine ev_succ ?_
    simp only [impl_PeaksOK.l0, hin, hh, Option.bind_some]
    refine ev_if_pos (by omega) (ev_if_pos (by omega) (ev_if_pos (by omega) (ev_if_pos (by first | rfl | trivial) (ev_if_pos hb ?_))))
    by_cases h0 : (i : Int) > 0
    · have hm : wrap64 ((i : Int) - 1) = (i : Int) - 1 := wrap_in (by omega) (by omega)
      rw [hm, hw]
      have := e3 (by omega)
      exact ev_if_pos h0 (ev_if_pos (by omega) (ev_if_pos (by omega) (ev_if_neg (by omega) (ev_if_pos (by first | rfl | trivial) hr))))
    · rw [hw]
      exact ev_if_neg h0 (ev_if_pos (by first | rfl | trivial) hr)
theorem peaksOK_RP (ps : List S86) (l : List ByteArray) (h : RP ps l) (ha : All32 l) (hl : l.length ≤ 64) : Ev (fun k => impl_PeaksOK.f k ps) true := by
  unfold impl_PeaksOK.f
  exact peaksOK_from ps l h ha hl ps.length 0 (by omega)
theorem set_last (qs : List S86) (p q v : S86) : ((qs ++ [p] ++ [q]).set qs.length v).take (qs.length + 1) = qs ++ [v] := by
  rw [set_take _ _ _ (by simp)]
  rw [List.append_assoc, List.take_left' rfl]
/-- Trees of one size become one. -/
theorem add_RP (m : Nat) : ∀ (ps : List S86) (l t : List ByteArray) (j : Nat), ps.length = m → RP ps l → t.length = 2 ^ j → 2 ^ j ∣ l.length → l.length + t.length ≤ 64 → All32 l → All32 t →
    ∃ r, Ev (fun k => impl_AddPeak.l1 k (ps ++ [(⟨((2 ^ j : Nat) : Int), treeOf t⟩ : S86)]) ((ps.length : Nat) : Int)) (r, 0) ∧ RP r (l ++ t) := by
  induction m with
  | zero =>
    intro ps l t j hm h ht hd hl hal hat
    obtain rfl := List.eq_nil_of_length_eq_zero hm
    rcases h.parts with ⟨_, rfl⟩ | ⟨ps', l', t', e', he, _⟩
    · refine ⟨_, ev_succ ?_, RP.snoc t j RP.nil ht (Nat.dvd_zero _)⟩
      simp only [impl_AddPeak.l1]
      exact ev_if_neg (by simp) (ev_some _)
    · simp at he
  | succ m ih =>
    intro ps l t j hm h ht hd hl hal hat
    rcases h.parts with ⟨rfl, _⟩ | ⟨qs, l', t', e, rfl, rfl, h', ht', hd'⟩
    · simp at hm
    · have hq : (qs ++ [(⟨((2 ^ e : Nat) : Int), treeOf t'⟩ : S86)]).length = qs.length + 1 := by rw [List.length_append]; rfl
      have hlen : (qs ++ [(⟨((2 ^ e : Nat) : Int), treeOf t'⟩ : S86)] ++ [(⟨((2 ^ j : Nat) : Int), treeOf t⟩ : S86)]).length = qs.length + 2 := by rw [List.length_append, hq]; rfl
      have r0 : rd_T86 (qs ++ [(⟨((2 ^ e : Nat) : Int), treeOf t'⟩ : S86)] ++ [(⟨((2 ^ j : Nat) : Int), treeOf t⟩ : S86)]) ((qs.length : Nat) : Int) = ⟨((2 ^ e : Nat) : Int), treeOf t'⟩ := by rw [rdP_old _ _ _ (by rw [hq]; omega), rdP_new]
      have r1 : rd_T86 (qs ++ [(⟨((2 ^ e : Nat) : Int), treeOf t'⟩ : S86)] ++ [(⟨((2 ^ j : Nat) : Int), treeOf t⟩ : S86)]) ((qs.length + 1 : Nat) : Int) = ⟨((2 ^ j : Nat) : Int), treeOf t⟩ := by
        have := rdP_new (qs ++ [(⟨((2 ^ e : Nat) : Int), treeOf t'⟩ : S86)]) (⟨((2 ^ j : Nat) : Int), treeOf t⟩ : S86)
        rw [hq] at this
        exact this
      have hsl := set_last qs (⟨((2 ^ e : Nat) : Int), treeOf t'⟩ : S86) (⟨((2 ^ j : Nat) : Int), treeOf t⟩ : S86)
      rw [List.length_append, ht'] at hd
      rw [List.length_append] at hl
      rw [hq]
      have hqb := (h'.sum (by omega)).2
      generalize hL : qs ++ [(⟨((2 ^ e : Nat) : Int), treeOf t'⟩ : S86)] ++ [(⟨((2 ^ j : Nat) : Int), treeOf t⟩ : S86)] = L at hlen r0 r1 hsl ⊢
      have w1 : Aside0 (wrap64 (((qs.length + 1 : Nat) : Int) - 1) = ((qs.length : Nat) : Int)) := ⟨(wrap_in (by omega) (by omega)).trans (by omega)⟩
      have hal' : All32 l' := fun x hx => hal x (List.mem_append_left _ hx)
      have hat' : All32 t' := fun x hx => hal x (List.mem_append_right _ hx)
      have hpe := two_pos e
      have hpj := two_pos j
      by_cases hej : e = j
      · subst hej
        have hn : impl_nodeHash.f (treeOf t') (treeOf t) = some (treeOf (t' ++ t)) := by
          rw [impl_node _ _ (by rw [treeOf_32 t' hat' (by omega)]; omega) (by rw [treeOf_32 t hat (by omega)]; omega), tree_join t' t e ht' (by omega) (by omega)]
        have hall : All32 (t' ++ t) := by
          intro x hx
          rcases List.mem_append.1 hx with h1 | h1
          · exact hat' x h1
          · exact hat x h1
        obtain ⟨r, hr, hR⟩ := ih qs l' (t' ++ t) (e + 1) (by omega) h' (by rw [List.length_append, ht', ht, Nat.pow_succ]; omega) hd' (by rw [List.length_append]; omega) hal' hall
        have hv : wrap64 (2 * ((2 ^ e : Nat) : Int)) = ((2 ^ (e + 1) : Nat) : Int) := by rw [wrap_in (by omega) (by omega), Nat.pow_succ]; omega
        refine ⟨r, ev_succ ?_, by rw [List.append_assoc]; exact hR⟩
        simp only [impl_AddPeak.l1, w1.out, r0, r1, hn, Option.bind_some, hv, Int.toNat_natCast, hsl]
        exact ev_if_pos (by omega) (ev_if_pos (by omega) (ev_if_pos (by omega) (ev_if_pos (by omega) (ev_if_pos (by omega) (ev_if_pos (by first | rfl | trivial) (ev_if_pos (by omega) hr))))))
      · have hje := dvd_le hd' hd
        have hlt : j < e := by omega
        have hne : ¬ ((2 ^ e : Nat) : Int) = ((2 ^ j : Nat) : Int) := by
          have : 2 ^ j < 2 ^ e := Nat.pow_lt_pow_right (by omega) hlt
          omega
        refine ⟨L, ev_succ ?_, ?_⟩
        · simp only [impl_AddPeak.l1, w1.out, r0, r1]
          exact ev_if_pos (by omega) (ev_if_pos (by omega) (ev_if_pos (by omega) (ev_if_pos (by omega) (ev_if_pos (by omega) (ev_if_neg hne (ev_some _))))))
        · rw [← hL]
          refine RP.snoc t j h ht ?_
          rw [List.length_append, ht']
          exact Nat.dvd_add (Nat.dvd_trans (Nat.pow_dvd_pow 2 (by omega)) hd') (Nat.pow_dvd_pow 2 (by omega))
/-- One leaf more. -/
theorem addPeak_RP (ps : List S86) (l : List ByteArray) (a : ByteArray) (h : RP ps l) (ha : All32 l) (hl : l.length ≤ 63) (h3 : a.size = 32) : ∃ r, Ev (fun k => impl_AddPeak.f k ps a) (r, 0) ∧ RP r (l ++ [a]) := by
  obtain ⟨hs, hn⟩ := h.sum (by omega)
  have ht : treeOf [a] = a := by rw [treeOf_one [a] rfl]; rfl
  obtain ⟨r, hr, hR⟩ := add_RP ps.length ps l [a] 0 rfl h rfl (Nat.one_dvd _) (by simp; omega) ha (fun x hx => by rw [List.mem_singleton.1 hx]; exact h3)
  rw [ht] at hr
  have hok := peaksOK_RP ps l h ha (by omega)
  refine ⟨r, ?_, hR⟩
  unfold impl_AddPeak.f
  refine impl_sum ps (by omega) a _ (ev_succ ?_) ps.length 0 (by omega)
  simp only [impl_AddPeak.l0, isText_one', decide_eq_false (show ¬ (a.size : Int) > 65536 by omega)]
  unfold impl_Peak_66.f
  simp only [Option.bind_some]
  refine ev_if_neg (by omega) (ev_if_pos (by simp only [decide_eq_true_eq]; omega) (ev_succ ?_))
  simp only [impl_AddPeak.j1]
  refine ev_if_neg (by simp) (ev_bind hok (ev_if_pos (by first | rfl | trivial) ?_))
  rw [isHash_one, decide_eq_true (show (a.size : Int) = 32 by omega)]
  simp only [Option.bind_some]
  refine ev_succ ?_
  simp only [impl_AddPeak.j2]
  unfold impl_Peak_69.f
  rw [if_pos (show ps.length ≤ 1000000 by omega)]
  have w : wrap64 (((ps ++ [(⟨1, a⟩ : S86)]).length : Int) - 1) = ((ps.length : Nat) : Int) := by rw [List.length_append]; exact (wrap_in (by simp only [List.length_cons, List.length_nil]; omega) (by simp only [List.length_cons, List.length_nil]; omega)).trans (by simp only [List.length_cons, List.length_nil]; omega)
  simp only [Option.bind_some, w]
  rw [hs]
  exact ev_if_neg (by simp) (ev_if_neg (by omega) (ev_if_pos (by omega) hr))

/-- The hash of peaks is that of all leaves. -/
theorem peaksRoot_RP (ps : List S86) (l : List ByteArray) (h : RP ps l) (ha : All32 l) (hl : l.length ≤ 64) (h1 : 1 ≤ l.length) : Ev (fun k => impl_PeaksRoot.f k ps) (treeOf l, 0) := by
  obtain ⟨hs, hn⟩ := h.sum (by omega)
  have hok := peaksOK_RP ps l h ha hl
  unfold impl_PeaksRoot.f
  rcases h.parts with ⟨rfl, rfl⟩ | ⟨qs, l', t, e, rfl, rfl, h', ht, hd⟩
  · exact absurd h1 (by simp)
  · have hp := two_pos e
    have hr : impl_PeaksRoot.root (qs ++ [(⟨((2 ^ e : Nat) : Int), treeOf t⟩ : S86)]) = treeOf (l' ++ t) := by
      unfold impl_PeaksRoot.root
      rw [List.reverse_append]
      exact fold_RP h' t (e + 1) (by omega) (by rw [ht, Nat.pow_succ]; omega) hd
    have hall : ((qs ++ [(⟨((2 ^ e : Nat) : Int), treeOf t⟩ : S86)]).all fun p => decide (p.f1.size ≤ 100000000)) = true := by
      rw [List.all_eq_true]
      intro x hx
      obtain ⟨j, hj, rfl⟩ := List.mem_iff_getElem.1 hx
      obtain ⟨e', e1, e2, e3, e4⟩ := h.each ha j hj
      unfold rd_T86 at e4
      rw [Int.toNat_natCast, List.getD_eq_getElem?_getD, List.getElem?_eq_getElem hj, Option.getD_some] at e4
      exact decide_eq_true (by omega)
    refine ev_if_neg (by omega) (ev_bind hok (ev_if_pos (by first | rfl | trivial) (ev_if_neg (by rw [List.length_append]; simp only [List.length_cons, List.length_nil]; omega) ?_)))
    rw [if_pos hall, hr]
    exact ev_some _




theorem digest_some (c : List Int) (hc : ∀ x ∈ c, 0 ≤ x ∧ x < 256) (a b : Int) (h : SrcOK c a b 0) : ∃ r a' b', spec_l00Src_digest.f c a b = some (r, a', b') ∧ r.size = 32 := by
  obtain ⟨q, a1, b1, e1, q0, q1, h1⟩ := next_src c hc a b 0 (by omega) 256 (by omega) (by omega) h
  obtain ⟨q2, a2, b2, e2, p0, p1, h2⟩ := next_src c hc a1 b1 1 (by omega) 4 (by omega) (by omega) h1
  unfold spec_l00Src_digest.f
  rw [e1]
  simp only [Option.bind_some, e2]
  rw [lhash_some _ (fun x hx => by
    simp only [List.mem_cons, List.not_mem_nil, or_false] at hx
    omega) (by simp)]
  exact ⟨_, _, _, rfl, Go.Proofs.Ytamjkgbimcpfaaa.SHash.sha_size _⟩
theorem hashOf_some (c : List Int) (hc : ∀ x ∈ c, 0 ≤ x ∧ x < 256) : ∃ r, spec_HashOf.f c = some r ∧ r.size = 32 := by
  obtain ⟨z, ez, hs⟩ := source_some c
  obtain ⟨r, a3, b3, e3, hr⟩ := digest_some c hc 0 z hs
  refine ⟨r, ?_, hr⟩
  unfold spec_HashOf.f
  rw [ez]
  simp only [Option.bind_some, e3]

/-- How many bits of a number are set. -/
def popc (n : Nat) : Nat := if h : n = 0 then 0 else n % 2 + popc (n / 2)
  termination_by n
  decreasing_by omega
theorem popc_zero : popc 0 = 0 := by rw [popc, dif_pos rfl]
theorem popc_two (n : Nat) : popc (2 * n) = popc n := by
  by_cases h : n = 0
  · rw [h]
  · rw [popc, dif_neg (by omega), show 2 * n % 2 = 0 by omega, show 2 * n / 2 = n by omega, Nat.zero_add]
theorem popc_odd (n : Nat) : popc (2 * n + 1) = popc n + 1 := by
  rw [popc, dif_neg (by omega), show (2 * n + 1) % 2 = 1 by omega, show (2 * n + 1) / 2 = n by omega, Nat.add_comm]
theorem popc_add (e : Nat) : ∀ m, 2 ^ (e + 1) ∣ m → popc (m + 2 ^ e) = popc m + 1 := by
  induction e with
  | zero =>
    intro m h
    obtain ⟨q, rfl⟩ := h
    show popc (2 * q + 1) = popc (2 * q) + 1
    rw [popc_odd, popc_two]
  | succ e ih =>
    intro m h
    obtain ⟨q, rfl⟩ := h
    have e1 : 2 ^ (e + 1 + 1) * q = 2 * (2 ^ (e + 1) * q) := by rw [Nat.pow_succ, Nat.mul_comm (2 ^ (e + 1)) 2, Nat.mul_assoc]
    have e2 : 2 ^ (e + 1) = 2 * 2 ^ e := by rw [Nat.pow_succ, Nat.mul_comm]
    have := ih (2 ^ (e + 1) * q) ⟨q, rfl⟩
    rw [e1, show 2 * (2 ^ (e + 1) * q) + 2 ^ (e + 1) = 2 * (2 ^ (e + 1) * q + 2 ^ e) by rw [e2]; omega, popc_two, popc_two]
    exact this
theorem RP.bits {ps : List S86} {l : List ByteArray} (h : RP ps l) : ps.length = popc l.length := by
  induction h with
  | nil => rw [List.length_nil, List.length_nil, popc_zero]
  | snoc t e h ht hd ih => rw [List.length_append, List.length_append, ht, popc_add e _ hd, ih]; rfl
theorem spec_treeHash (l : List ByteArray) (h : All32 l) (hl : l.length ≤ 40) : Ev (fun k => spec_TreeHash.f k l) (treeOf l, 0) := by
  unfold spec_TreeHash.f
  exact ev_if_neg (by omega) (ev_bind (spec_code_ev l (by omega)) (ev_if_pos (codeOf_32 l h hl) (ev_bind (spec_tree_ev l.length l (by omega) (by omega) (fun x hx => by have := h x hx; omega)) (ev_some _))))
theorem node_impl (a : ByteArray) (h : a.size = 32) : impl_NodeHash.f a a = some (nodeOf a a, 0) := by
  unfold impl_NodeHash.f impl_isText.f impl_isHash.f
  simp only [Option.bind_some, List.any_cons, List.any_nil, Bool.or_false, impl_isText.p, impl_isHash.p]
  rw [if_pos (by simp; omega), if_pos (by simp; omega), impl_node a a (by omega) (by omega)]
  rfl
theorem node_spec (a : ByteArray) (h : a.size = 32) : Ev (fun k => spec_NodeHash.f k a a) (nodeOf a a, 0) := by
  unfold spec_NodeHash.f
  refine ev_if_neg (by omega) (ev_succ ?_)
  simp only [spec_NodeHash.j0]
  refine ev_if_neg (by simp; omega) (ev_if_pos (by omega) (ev_if_pos (by omega) ?_))
  rw [spec_node a a (by omega) (by omega)]
  exact ev_some _
theorem peaks_end (c : List Int) (hc : ∀ x ∈ c, 0 ≤ x ∧ x < 256) (ps : List S86) (hp : ps.length ≤ 1000) (d : Nat) : ∀ (n b : Nat), n ≤ d → n ≤ 1000 → b ≤ 1000 → b + popc n = ps.length → Ev (fun k => laws_FnPeaks.l1 k c ps (b : Int) (n : Int)) true := by
  have done_ : ∀ b : Nat, b + popc 0 = ps.length → Ev (fun k => laws_FnPeaks.l1 k c ps (b : Int) ((0 : Nat) : Int)) true := by
    intro b hb
    rw [popc_zero, Nat.add_zero] at hb
    obtain ⟨g, eg, sg⟩ := hashOf_some c hc
    refine ev_succ ?_
    simp only [laws_FnPeaks.l1, eg, Option.bind_some, node_impl g sg]
    refine ev_if_neg (by omega) (ev_bind (node_spec g sg) (ev_if_pos (by omega) (ev_if_pos (by first | rfl | trivial) ?_)))
    simp only [beq_self_eq_true]
    exact ev_some _
  induction d with
  | zero =>
    intro n b h1 _ _ hb
    obtain rfl : n = 0 := by omega
    exact done_ b hb
  | succ d ih =>
    intro n b h1 h2 h3 hb
    by_cases h0 : n = 0
    · subst h0; exact done_ b hb
    · have hpc : popc n = n % 2 + popc (n / 2) := by rw [popc, dif_neg h0]
      have := ih (n / 2) (b + n % 2) (by omega) (by omega) (by omega) (by omega)
      have hpos : (n : Int) > 0 := by omega
      have t1 : Int.tmod (n : Int) 2 = ((n % 2 : Nat) : Int) := by rw [Int.tmod_eq_emod_of_nonneg (by omega)]; omega
      have t2 : Int.tdiv (n : Int) 2 = ((n / 2 : Nat) : Int) := by rw [Int.tdiv_eq_ediv_of_nonneg (by omega)]; omega
      have w1 : wrap64 ((b : Int) + ((n % 2 : Nat) : Int)) = ((b + n % 2 : Nat) : Int) := (wrap_in (by omega) (by omega)).trans (by omega)
      have w2 : wrap64 ((n / 2 : Nat) : Int) = ((n / 2 : Nat) : Int) := wrap_in (by omega) (by omega)
      refine ev_succ ?_
      simp only [laws_FnPeaks.l1, t1, t2, w1, w2]
      exact ev_if_pos hpos this
theorem peaks_all (c : List Int) (hc : ∀ x ∈ c, 0 ≤ x ∧ x < 256) (l : List ByteArray) (h32 : All32 l) (h40 : l.length ≤ 40) (d : Nat) : ∀ (i : Nat) (ps : List S86), i + d = l.length → RP ps (l.take i) → Ev (fun k => laws_FnPeaks.l0 k c l ps (i : Int)) true := by
  induction d with
  | zero =>
    intro i ps hi h
    rw [List.take_of_length_le (by omega)] at h
    have hb := h.bits
    have hn := (h.sum (by omega)).2
    refine ev_succ ?_
    simp only [laws_FnPeaks.l0]
    exact ev_if_neg (by omega) (peaks_end c hc ps (by omega) l.length l.length 0 (Nat.le_refl _) (by omega) (by omega) (by omega))
  | succ d ih =>
    intro i ps hi h
    have hlt : i < l.length := by omega
    have hrd : rdOf ByteArray.empty l (i : Int) = l[i] := by unfold rdOf; rw [Int.toNat_natCast, List.getD_eq_getElem?_getD, List.getElem?_eq_getElem hlt, Option.getD_some]
    have lt : (l.take i).length = i := by rw [List.length_take]; omega
    obtain ⟨r, hr, hR⟩ := addPeak_RP ps (l.take i) l[i] h (h32.take i) (by omega) (h32 _ (List.getElem_mem hlt))
    rw [← List.take_succ_eq_append_getElem hlt] at hR
    have lt1 : (l.take (i + 1)).length = i + 1 := by rw [List.length_take]; omega
    have hok := peaksOK_RP r _ hR (h32.take _) (by omega)
    have hro := peaksRoot_RP r _ hR (h32.take _) (by omega) (by omega)
    have hsp := spec_treeHash _ (h32.take (i + 1)) (by omega)
    have w1 : wrap64 ((i : Int) + 1) = ((i + 1 : Nat) : Int) := (wrap_in (by omega) (by omega)).trans (by omega)
    refine ev_succ ?_
    simp only [laws_FnPeaks.l0, hrd]
    refine ev_if_pos (by omega) (ev_if_pos (by omega) (ev_bind hr (ev_if_pos (by first | rfl | trivial) (ev_bind hok (ev_succ ?_)))))
    simp only [laws_FnPeaks.j1, w1, Int.toNat_natCast]
    exact ev_if_neg (by simp) (ev_bind hro (ev_if_pos (by omega) (ev_if_pos (by omega) (ev_bind hsp (ev_if_pos (by first | rfl | trivial) (ev_if_pos (by first | rfl | trivial) (ih (i + 1) r (by omega) hR)))))))
theorem FnPeaks : laws_FnPeaks.Pure := by
  intro c _ _ hcb
  refine Ev.rounds (r := true) ?_
  unfold laws_FnPeaks.f
  have hc : ∀ x ∈ c, 0 ≤ x ∧ x < 256 := fun x hx => by
    have := hcb x hx
    simp only [Lit.wf, Bool.and_eq_true, decide_eq_true_eq] at this
    have h1 : IntKind.u8.min = 0 := rfl
    have h2 : IntKind.u8.max = 255 := rfl
    omega
  by_cases h0 : (c.length : Int) > 1048576
  · exact ev_if_pos h0 (ev_some _)
  · obtain ⟨l, hl, h32, h40⟩ := leavesOf_ev c hc
    refine ev_if_neg h0 (ev_bind hl ?_)
    exact peaks_all c hc l h32 h40 l.length 0 [] (by omega) RP.nil
end Go.Proofs.Ytamjkgbimcpfaaa.Pure
