/- The program's InclusionRoot answers as the reference's at all hashes, places and proofs: the plain form. No conditions. -/
import Derived.Test.YtpoaapedcmfcfaaQFnExactInclusionRoot
import Derived.Test.YtpoaapedcmfcfaaU
import Derived.Test.YtpoaapedcmfcfaaMk
namespace Go.Proofs.Ytpoaapedcmfcfaa.Pure
open Go.RowKit Go.Proofs.Ytpoaapedcmfcfaa.PFnExactInclusionRoot Go.Proofs.YtpoaapedcmfcfaaW.PrintWords Go.Proofs.YtpoaapedcmfcfaaW.PrintLast Go.Proofs.YtpoaapedcmfcfaaW.PrintMore Go.Proofs.Ytpoaapedcmfcfaa.U
set_option linter.unusedVariables false
set_option linter.unusedSimpArgs false
/-- The greatest power of two below a number above one. -/
def halfGo : Nat → Nat → Nat → Nat
  | 0, _, x => x
  | f + 1, n, x => if 2 * x < n then halfGo f n (2 * x) else x
def halfN (n : Nat) : Nat := halfGo n n 1
theorem halfGo_lt (f : Nat) : ∀ (n x : Nat), 1 ≤ x → x < n → 1 ≤ halfGo f n x ∧ halfGo f n x < n := by
  induction f with
  | zero => intro n x h1 h2; exact ⟨h1, h2⟩
  | succ f ih =>
    intro n x h1 h2
    unfold halfGo
    split
    · exact ih n (2 * x) (by omega) (by omega)
    · exact ⟨h1, h2⟩
theorem halfN_lt (n : Nat) (h : 2 ≤ n) : 1 ≤ halfN n ∧ halfN n < n := halfGo_lt n n 1 (by omega) (by omega)
theorem half_ev (f : Nat) : ∀ (n x : Nat), n ≤ 1000000 → 1 ≤ x → x ≤ 1000000 → n - x ≤ f → Ev (fun k => spec_l06Half.l0 k (n : Int) (x : Int)) ((halfGo f n x : Nat) : Int) := by
  induction f with
  | zero =>
    intro n x hn h1 h2 hf
    have w1 : wrap64 (2 * (x : Int)) = 2 * (x : Int) := wrap_in (by omega) (by omega)
    refine ev_succ ?_
    simp only [spec_l06Half.l0, w1]
    exact ev_if_neg (by omega) (ev_some _)
  | succ f ih =>
    intro n x hn h1 h2 hf
    have w1 : Aside0 (wrap64 (2 * (x : Int)) = 2 * (x : Int)) := ⟨wrap_in (by omega) (by omega)⟩
    have w2 : Aside0 (wrap64 ((x : Int) * 2) = ((2 * x : Nat) : Int)) := ⟨(wrap_in (by omega) (by omega)).trans (by omega)⟩
    refine ev_succ ?_
    simp only [spec_l06Half.l0, w1.out, w2.out, halfGo]
    by_cases h : 2 * x < n
    · rw [if_pos h]
      exact ev_if_pos (by omega) (ih n (2 * x) hn (by omega) (by omega) (by omega))
    · rw [if_neg h]
      exact ev_if_neg (by omega) (ev_some _)
theorem split_ev (f : Nat) : ∀ (n x : Nat), n ≤ 1000000 → 1 ≤ x → x ≤ 1000000 → n - x ≤ f → Ev (fun k => impl_split.l0 k (n : Int) (x : Int)) ((halfGo f n x : Nat) : Int) := by
  induction f with
  | zero =>
    intro n x hn h1 h2 hf
    have w1 : wrap64 (2 * (x : Int)) = 2 * (x : Int) := wrap_in (by omega) (by omega)
    refine ev_succ ?_
    simp only [impl_split.l0, w1]
    exact ev_if_neg (by omega) (ev_some _)
  | succ f ih =>
    intro n x hn h1 h2 hf
    have w1 : Aside0 (wrap64 (2 * (x : Int)) = 2 * (x : Int)) := ⟨wrap_in (by omega) (by omega)⟩
    have w2 : Aside0 (wrap64 ((x : Int) * 2) = ((2 * x : Nat) : Int)) := ⟨(wrap_in (by omega) (by omega)).trans (by omega)⟩
    refine ev_succ ?_
    simp only [impl_split.l0, w1.out, w2.out, halfGo]
    by_cases h : 2 * x < n
    · rw [if_pos h]
      exact ev_if_pos (by omega) (ih n (2 * x) hn (by omega) (by omega) (by omega))
    · rw [if_neg h]
      exact ev_if_neg (by omega) (ev_some _)
theorem half_any (n : Nat) (hn : n ≤ 1000000) : Ev (fun k => spec_l06Half.f k (n : Int)) ((halfN n : Nat) : Int) := half_ev n n 1 hn (by omega) (by omega) (by omega)
theorem split_any (n : Nat) (hn : n ≤ 1000000) : Ev (fun k => impl_split.f k (n : Int)) ((halfN n : Nat) : Int) := split_ev n n 1 hn (by omega) (by omega) (by omega)

theorem hash_some (s : ByteArray) (h : s.size ≤ 1099511627776) : impl_hash.f s = some (Go.Proofs.Ytpoaapedcmfcfaa.Hash.sha s) := by
  unfold impl_hash.f
  rw [if_pos h]
theorem lhash_some (l : List Int) (hb : ∀ x ∈ l, 0 ≤ x ∧ x < 256) (h : l.length ≤ 1099511627776) : spec_l01Hash.f l = some (Go.Proofs.Ytpoaapedcmfcfaa.Hash.sha (strOfNums l)) := by
  unfold spec_l01Hash.f
  rw [if_pos h, Go.Proofs.Ytpoaapedcmfcfaa.SHash.shaL_eq l hb]
theorem bytesOf_len (s : ByteArray) : (bytesOf s).length = s.size := bytesOf_length s

/-- What two hashes come to. -/
def nodeOf (a b : ByteArray) : ByteArray := Go.Proofs.Ytpoaapedcmfcfaa.Hash.sha ((⟨#[1]⟩ : ByteArray) ++ a ++ b)
theorem nodeOf_size (a b : ByteArray) : (nodeOf a b).size = 32 := Go.Proofs.Ytpoaapedcmfcfaa.SHash.sha_size _
theorem impl_node (a b : ByteArray) (ha : a.size ≤ 100000000) (hb : b.size ≤ 100000000) : impl_nodeHash.f a b = some (nodeOf a b) := by
  unfold impl_nodeHash.f
  rw [if_pos (by omega), if_pos (by omega), hash_some _ (by rw [ByteArray.size_append, ByteArray.size_append]; show 1 + _ + _ ≤ _; omega)]
  rfl
theorem spec_node (a b : ByteArray) (ha : a.size ≤ 100000000) (hb : b.size ≤ 100000000) : spec_l06Node.f a b = some (nodeOf a b) := by
  unfold spec_l06Node.f
  simp only [Option.bind_some]
  rw [if_pos (by show 1 + _ < _; omega), if_pos (by rw [List.length_append, bytesOf_len]; show 1 + _ + _ < _; omega), lhash_some _ (fun x hx => by
    simp only [List.mem_append, List.mem_cons, List.not_mem_nil, or_false] at hx
    rcases hx with (rfl | h) | h
    · omega
    · exact bytesOf_range a x h
    · exact bytesOf_range b x h) (by rw [List.length_append, List.length_append, bytesOf_len, bytesOf_len]; show 1 + _ + _ ≤ _; omega)]
  rw [strOfNums_append, strOfNums_append, strOfNums_bytesOf, strOfNums_bytesOf]
  rfl

theorem halfGo_mk (f : Nat) : ∀ n x : Nat, halfGo f n x = Go.Proofs.Ytpoaapedcmfcfaa.Mk.halfGo f n x := by
  induction f with
  | zero => intro n x; rfl
  | succ f ih =>
    intro n x
    simp only [halfGo, Go.Proofs.Ytpoaapedcmfcfaa.Mk.halfGo]
    split
    · exact ih n _
    · rfl
theorem half_mk (n : Nat) (hn : n ≤ 1000000) : Ev (fun k => spec_l06Half.f k (n : Int)) ((Go.Proofs.Ytpoaapedcmfcfaa.Mk.halfN n : Nat) : Int) := by
  have := half_any n hn
  unfold halfN at this
  rw [halfGo_mk] at this
  exact this
theorem node_mk (a b : ByteArray) (ha : a.size ≤ 100000000) (hb : b.size ≤ 100000000) : spec_l06Node.f a b = some (Go.Proofs.Ytpoaapedcmfcfaa.Mk.nodeOf a b) := spec_node a b ha hb
/-- How a list ends. -/
theorem rev_len (z : ByteArray) (ys : List ByteArray) : (z :: ys).reverse.length = ys.length + 1 := by simp
theorem rev_take (z : ByteArray) (ys : List ByteArray) : (z :: ys).reverse.take ys.length = ys.reverse := by
  rw [List.reverse_cons]
  exact List.take_left' (by simp)
theorem rev_last (z : ByteArray) (ys : List ByteArray) : rdOf ByteArray.empty (z :: ys).reverse (ys.length : Int) = z := by
  unfold rdOf
  rw [Int.toNat_natCast, List.getD_eq_getElem?_getD, List.reverse_cons, List.getElem?_append_right (by simp)]
  simp

/-- How many hashes a proof of a leaf has. -/
def depI : Nat → Nat → Nat → Nat
  | 0, _, _ => 0
  | f + 1, i, n => if n ≤ 1 then 0 else if i < Go.Proofs.Ytpoaapedcmfcfaa.Mk.halfN n then depI f i (Go.Proofs.Ytpoaapedcmfcfaa.Mk.halfN n) + 1 else depI f (i - Go.Proofs.Ytpoaapedcmfcfaa.Mk.halfN n) (n - Go.Proofs.Ytpoaapedcmfcfaa.Mk.halfN n) + 1
/-- What a leaf and hashes (the last one first) lead to, and whether there are as many as there should be. -/
def upI (leaf : ByteArray) : Nat → Nat → Nat → List ByteArray → ByteArray × Bool
  | 0, _, _, ys => (leaf, decide (ys.length = 0))
  | _ + 1, _, n, [] => if n ≤ 1 then (leaf, true) else (⟨#[]⟩, false)
  | f + 1, i, n, z :: ys => if n ≤ 1 then (leaf, false) else if i < Go.Proofs.Ytpoaapedcmfcfaa.Mk.halfN n then (Go.Proofs.Ytpoaapedcmfcfaa.Mk.nodeOf (upI leaf f i (Go.Proofs.Ytpoaapedcmfcfaa.Mk.halfN n) ys).1 z, (upI leaf f i (Go.Proofs.Ytpoaapedcmfcfaa.Mk.halfN n) ys).2)
    else (Go.Proofs.Ytpoaapedcmfcfaa.Mk.nodeOf z (upI leaf f (i - Go.Proofs.Ytpoaapedcmfcfaa.Mk.halfN n) (n - Go.Proofs.Ytpoaapedcmfcfaa.Mk.halfN n) ys).1, (upI leaf f (i - Go.Proofs.Ytpoaapedcmfcfaa.Mk.halfN n) (n - Go.Proofs.Ytpoaapedcmfcfaa.Mk.halfN n) ys).2)
theorem upI_ok (leaf : ByteArray) (f : Nat) : ∀ (i n : Nat) (ys : List ByteArray), (upI leaf f i n ys).2 = decide (ys.length = depI f i n) := by
  induction f with
  | zero => intro i n ys; rfl
  | succ f ih =>
    intro i n ys
    cases ys with
    | nil =>
      simp only [upI, depI]
      split
      · rfl
      · split <;> rw [decide_eq_false (by simp only [List.length_nil]; omega)]
    | cons z ys =>
      simp only [upI, depI]
      split
      · rw [decide_eq_false (by simp only [List.length_cons]; omega)]
      · split
        · show (upI leaf f i _ ys).2 = _
          rw [ih, Bool.eq_iff_iff]
          simp
        · show (upI leaf f _ _ ys).2 = _
          rw [ih, Bool.eq_iff_iff]
          simp
theorem upI_size (leaf : ByteArray) (hl : leaf.size ≤ 100000000) (f : Nat) : ∀ (i n : Nat) (ys : List ByteArray), (upI leaf f i n ys).1.size ≤ 100000000 := by
  induction f with
  | zero => intro i n ys; exact hl
  | succ f ih =>
    intro i n ys
    cases ys with
    | nil =>
      simp only [upI]
      split
      · exact hl
      · exact Nat.zero_le _
    | cons z ys =>
      simp only [upI]
      split
      · exact hl
      · split <;> (show (Go.Proofs.Ytpoaapedcmfcfaa.Mk.nodeOf _ _).size ≤ _; rw [Go.Proofs.Ytpoaapedcmfcfaa.Mk.nodeOf_size]; omega)
theorem spec_up_ev (leaf : ByteArray) (hl : leaf.size ≤ 100000000) (f : Nat) : ∀ (i n : Nat) (ys : List ByteArray), n ≤ f → 1 ≤ n → n ≤ 1000000 → i < n → ys.length ≤ 1000000 → (∀ x ∈ ys, x.size ≤ 100000000) →
    Ev (fun k => spec_l06Up.f k leaf (i : Int) (n : Int) ys.reverse) (upI leaf f i n ys) := by
  induction f with
  | zero => intro i n ys h h1; omega
  | succ f ih =>
    intro i n ys hf h1 hn hi hy hx
    refine ev_succ ?_
    cases ys with
    | nil =>
      simp only [spec_l06Up.f, upI, List.reverse_nil, List.length_nil]
      by_cases h : n ≤ 1
      · rw [if_pos h]
        exact ev_if_pos (by omega) (ev_some _)
      · rw [if_neg h]
        exact ev_if_neg (by omega) (ev_if_pos (by simp) (ev_some _))
    | cons z ys =>
      have hz := hx z List.mem_cons_self
      have hx' : ∀ x ∈ ys, x.size ≤ 100000000 := fun x h => hx x (List.mem_cons_of_mem _ h)
      rw [List.length_cons] at hy
      have w : wrap64 (((ys.length + 1 : Nat) : Int) - 1) = (ys.length : Int) := (wrap_in (by omega) (by omega)).trans (by omega)
      simp only [spec_l06Up.f, upI, rev_len, w, Int.toNat_natCast, rev_take, rev_last]
      clear w
      by_cases h : n ≤ 1
      · rw [if_pos h]
        refine ev_if_pos (by omega) ?_
        rw [show (((ys.length + 1 : Nat) : Int) == 0) = false from beq_eq_false_iff_ne.mpr (by omega)]
        exact ev_some _
      · have hh := Go.Proofs.Ytpoaapedcmfcfaa.Mk.halfN_lt n (by omega)
        rw [if_neg h]
        refine ev_if_neg (by omega) (ev_if_neg (by omega) (ev_bind (half_mk n hn) (ev_if_pos (by omega) (ev_if_pos (by omega) (ev_if_pos (by omega) ?_)))))
        by_cases hlow : i < Go.Proofs.Ytpoaapedcmfcfaa.Mk.halfN n
        · rw [if_pos hlow]
          refine ev_if_pos (by omega) (ev_bind (ih i (Go.Proofs.Ytpoaapedcmfcfaa.Mk.halfN n) ys (by omega) (by omega) (by omega) hlow (by omega) hx') ?_)
          rw [node_mk _ _ (upI_size leaf hl _ _ _ _) hz]
          exact ev_some _
        · rw [if_neg hlow]
          have w1 : wrap64 ((i : Int) - ((Go.Proofs.Ytpoaapedcmfcfaa.Mk.halfN n : Nat) : Int)) = ((i - Go.Proofs.Ytpoaapedcmfcfaa.Mk.halfN n : Nat) : Int) := (wrap_in (by omega) (by omega)).trans (by omega)
          have w2 : wrap64 ((n : Int) - ((Go.Proofs.Ytpoaapedcmfcfaa.Mk.halfN n : Nat) : Int)) = ((n - Go.Proofs.Ytpoaapedcmfcfaa.Mk.halfN n : Nat) : Int) := (wrap_in (by omega) (by omega)).trans (by omega)
          rw [w1, w2]
          clear w1 w2
          refine ev_if_neg (by omega) (ev_bind (ih (i - Go.Proofs.Ytpoaapedcmfcfaa.Mk.halfN n) (n - Go.Proofs.Ytpoaapedcmfcfaa.Mk.halfN n) ys (by omega) (by omega) (by omega) (by omega) (by omega) hx') ?_)
          rw [node_mk _ _ hz (upI_size leaf hl _ _ _ _)]
          exact ev_some _
theorem incl_just (leaf : ByteArray) (f : Nat) : ∀ (i n : Nat) (ys rest : List ByteArray) (b : Bool) (st : List ByteArray), n ≤ f → ys.length = depI f i n →
    ∃ s, Go.Proofs.Ytpoaapedcmfcfaa.Mk.inclP leaf i n (ys.reverse ++ rest) b st = ((upI leaf f i n ys).1, rest, b, s) := by
  induction f with
  | zero =>
    intro i n ys rest b st hf hy
    obtain rfl := List.eq_nil_of_length_eq_zero hy
    exact ⟨st, Go.Proofs.Ytpoaapedcmfcfaa.Mk.inclP_one _ _ _ _ _ _ (by omega)⟩
  | succ f ih =>
    intro i n ys rest b st hf hy
    simp only [depI] at hy
    by_cases h : n ≤ 1
    · rw [if_pos h] at hy
      obtain rfl := List.eq_nil_of_length_eq_zero hy
      refine ⟨st, ?_⟩
      rw [Go.Proofs.Ytpoaapedcmfcfaa.Mk.inclP_one _ _ _ _ _ _ h]
      simp only [upI, if_pos h]
      rfl
    · rw [if_neg h] at hy
      have hh := Go.Proofs.Ytpoaapedcmfcfaa.Mk.halfN_lt n (by omega)
      cases ys with
      | nil => exfalso; split at hy <;> (simp only [List.length_nil] at hy; omega)
      | cons z ys =>
        have e : (z :: ys).reverse ++ rest = ys.reverse ++ (z :: rest) := by simp
        rw [List.length_cons] at hy
        simp only [upI, if_neg h]
        rw [e]
        by_cases hlow : i < Go.Proofs.Ytpoaapedcmfcfaa.Mk.halfN n
        · rw [if_pos hlow] at hy
          obtain ⟨s, hs⟩ := ih i (Go.Proofs.Ytpoaapedcmfcfaa.Mk.halfN n) ys (z :: rest) b st (by omega) (by omega)
          rw [Go.Proofs.Ytpoaapedcmfcfaa.Mk.inclP_low _ _ _ _ _ _ (by omega) hlow, if_pos hlow, hs]
          exact ⟨_, rfl⟩
        · rw [if_neg hlow] at hy
          obtain ⟨s, hs⟩ := ih (i - Go.Proofs.Ytpoaapedcmfcfaa.Mk.halfN n) (n - Go.Proofs.Ytpoaapedcmfcfaa.Mk.halfN n) ys (z :: rest) b st (by omega) (by omega)
          rw [Go.Proofs.Ytpoaapedcmfcfaa.Mk.inclP_high _ _ _ _ _ _ (by omega) hlow, if_neg hlow, hs]
          exact ⟨_, rfl⟩
theorem next_bad (xs : List ByteArray) : (Go.Proofs.Ytpoaapedcmfcfaa.Mk.nextP xs true).2.2 = true := by cases xs <;> rfl
theorem incl_less (leaf : ByteArray) (f : Nat) : ∀ (i n : Nat) (xs : List ByteArray) (b : Bool) (st : List ByteArray), n ≤ f → xs.length < depI f i n →
    (Go.Proofs.Ytpoaapedcmfcfaa.Mk.inclP leaf i n xs b st).2.2.1 = true := by
  induction f with
  | zero => intro i n xs b st hf h; exact absurd h (Nat.not_lt_zero _)
  | succ f ih =>
    intro i n xs b st hf hy
    simp only [depI] at hy
    by_cases h : n ≤ 1
    · rw [if_pos h] at hy; omega
    · rw [if_neg h] at hy
      have hh := Go.Proofs.Ytpoaapedcmfcfaa.Mk.halfN_lt n (by omega)
      by_cases hlow : i < Go.Proofs.Ytpoaapedcmfcfaa.Mk.halfN n
      · rw [if_pos hlow] at hy
        rw [Go.Proofs.Ytpoaapedcmfcfaa.Mk.inclP_low _ _ _ _ _ _ (by omega) hlow]
        show (Go.Proofs.Ytpoaapedcmfcfaa.Mk.nextP _ _).2.2 = true
        by_cases he : xs.length = depI f i (Go.Proofs.Ytpoaapedcmfcfaa.Mk.halfN n)
        · obtain ⟨s, hs⟩ := incl_just leaf f i (Go.Proofs.Ytpoaapedcmfcfaa.Mk.halfN n) xs.reverse [] b st (by omega) (by simpa using he)
          rw [List.reverse_reverse, List.append_nil] at hs
          rw [hs]
          rfl
        · rw [ih i (Go.Proofs.Ytpoaapedcmfcfaa.Mk.halfN n) xs b st (by omega) (by omega)]
          exact next_bad _
      · rw [if_neg hlow] at hy
        rw [Go.Proofs.Ytpoaapedcmfcfaa.Mk.inclP_high _ _ _ _ _ _ (by omega) hlow]
        show (Go.Proofs.Ytpoaapedcmfcfaa.Mk.nextP _ _).2.2 = true
        by_cases he : xs.length = depI f (i - Go.Proofs.Ytpoaapedcmfcfaa.Mk.halfN n) (n - Go.Proofs.Ytpoaapedcmfcfaa.Mk.halfN n)
        · obtain ⟨s, hs⟩ := incl_just leaf f (i - Go.Proofs.Ytpoaapedcmfcfaa.Mk.halfN n) (n - Go.Proofs.Ytpoaapedcmfcfaa.Mk.halfN n) xs.reverse [] b st (by omega) (by simpa using he)
          rw [List.reverse_reverse, List.append_nil] at hs
          rw [hs]
          rfl
        · rw [ih (i - Go.Proofs.Ytpoaapedcmfcfaa.Mk.halfN n) (n - Go.Proofs.Ytpoaapedcmfcfaa.Mk.halfN n) xs b st (by omega) (by omega)]
          exact next_bad _
/-- Just as many as there should be: the hash; else a code. -/
theorem incl_all (leaf : ByteArray) (i n : Nat) (l : List ByteArray) : ∃ s, impl_inclusionRoot.iroot (Go.Proofs.Ytpoaapedcmfcfaa.Mk.inclP leaf i n l false []) = if l.length = depI n i n then ((upI leaf n i n l.reverse).1, s, 0) else (⟨#[]⟩, [], 10) := by
  rcases Nat.lt_trichotomy l.length (depI n i n) with h | h | h
  · refine ⟨[], ?_⟩
    rw [if_neg (by omega), impl_inclusionRoot.iroot, if_pos (.inl (incl_less leaf n i n l false [] (Nat.le_refl _) h))]
  · obtain ⟨s, hs⟩ := incl_just leaf n i n l.reverse [] false [] (Nat.le_refl _) (by simpa using h)
    rw [List.reverse_reverse, List.append_nil] at hs
    refine ⟨s, ?_⟩
    rw [if_pos h, hs, impl_inclusionRoot.iroot, if_neg (by simp)]
  · obtain ⟨s, hs⟩ := incl_just leaf n i n (l.take (depI n i n)).reverse (l.drop (depI n i n)) false [] (Nat.le_refl _) (by simp; omega)
    rw [List.reverse_reverse, List.take_append_drop] at hs
    refine ⟨[], ?_⟩
    rw [if_neg (by omega), hs, impl_inclusionRoot.iroot, if_pos (.inr (by simp; omega))]

theorem szStringS_from (l : List ByteArray) (hg : ∀ x ∈ l, x.size ≤ maxLen) (d : Nat) : ∀ (i : Nat) (v : Int), i + d = l.length → 0 ≤ v → v ≤ 1048576 → l.length ≤ 1048576 →
    ∃ s, Ev (fun k => laws_szStringS.l0 k l v (i : Int)) s ∧ (s = -1 ∨ 0 ≤ s ∧ s ≤ v ∧ ∀ x ∈ l.drop i, (x.size : Int) ≤ v) := by
  induction d with
  | zero =>
    intro i v hi h0 h1 hl
    refine ⟨v, ev_succ ?_, .inr ⟨h0, Int.le_refl _, fun x hx => by rw [List.drop_eq_nil_of_le (by omega)] at hx; simp at hx⟩⟩
    simp only [laws_szStringS.l0]
    exact ev_if_neg (by omega) (ev_some _)
  | succ d ih =>
    intro i v hi h0 h1 hl
    have hm : rdOf ByteArray.empty l (i : Int) = l[i]'(by omega) := by
      unfold rdOf
      rw [Int.toNat_natCast, List.getD_eq_getElem?_getD, List.getElem?_eq_getElem (by omega), Option.getD_some]
    have hsz := hg (l[i]'(by omega)) (List.getElem_mem _)
    unfold maxLen at hsz
    have w1 : Aside0 (wrap64 (v - ((rdOf ByteArray.empty l (i : Int)).size : Int)) = v - ((l[i]'(by omega)).size : Int)) := ⟨by rw [hm]; exact wrap_in (by omega) (by omega)⟩
    have w2 : Aside0 (wrap64 ((i : Int) + 1) = ((i + 1 : Nat) : Int)) := ⟨(wrap_in (by omega) (by omega)).trans (by omega)⟩
    by_cases hneg : v - ((l[i]'(by omega)).size : Int) < 0
    · refine ⟨-1, ev_succ ?_, .inl rfl⟩
      simp only [laws_szStringS.l0, w1.out, w2.out]
      exact ev_if_pos (by omega) (ev_if_pos (by omega) (ev_if_pos hneg (ev_some _)))
    · obtain ⟨s, hs, hr⟩ := ih (i + 1) (v - ((l[i]'(by omega)).size : Int)) (by omega) (by omega) (by omega) hl
      refine ⟨s, ev_succ ?_, ?_⟩
      · simp only [laws_szStringS.l0, w1.out, w2.out]
        exact ev_if_pos (by omega) (ev_if_pos (by omega) (ev_if_neg hneg hs))
      · rcases hr with h | ⟨ha, hb, hc⟩
        · exact .inl h
        · refine .inr ⟨ha, by omega, fun x hx => ?_⟩
          rw [List.drop_eq_getElem_cons (by omega)] at hx
          rcases List.mem_cons.1 hx with rfl | hx
          · omega
          · have := hc x hx
            omega
theorem szStringS_ev (l : List ByteArray) (hl : l.length ≤ maxLen) (hg : ∀ x ∈ l, x.size ≤ maxLen) (n : Int) (hn : 0 ≤ n) (hn1 : n ≤ 1048576) : ∃ s, Ev (fun k => laws_szStringS.f k l n) s ∧ (s = -1 ∨ 0 ≤ s ∧ s ≤ n ∧ (l.length : Int) ≤ n ∧ ∀ x ∈ l, (x.size : Int) ≤ n) := by
  unfold maxLen at hl
  have hw : wrap64 (n - (l.length : Int)) = n - (l.length : Int) := wrap_in (by omega) (by omega)
  unfold laws_szStringS.f
  rw [hw]
  by_cases h : n - (l.length : Int) < 0
  · exact ⟨-1, ev_if_pos h (ev_some _), .inl rfl⟩
  · obtain ⟨s, hs, hr⟩ := szStringS_from l hg l.length 0 (n - (l.length : Int)) (by omega) (by omega) (by omega) (by omega)
    refine ⟨s, ev_if_neg h hs, ?_⟩
    rcases hr with h | ⟨ha, hb, hc⟩
    · exact .inl h
    · exact .inr ⟨ha, by omega, by omega, fun x hx => by have := hc x (by simpa using hx); omega⟩

theorem toStringS_from (l : List ByteArray) (hl : l.length ≤ 1048576) (d : Nat) : ∀ (i : Nat) (x : List ByteArray), i + d = l.length → x.length = l.length → (∀ j, j < i → x[j]? = l[j]?) → Ev (fun k => laws_toStringS.l0 k l x (i : Int)) l := by
  induction d with
  | zero =>
    intro i x hi hx h
    refine ev_succ ?_
    simp only [laws_toStringS.l0]
    have := copy_end l x hx (fun j hj => h j (by omega))
    subst this
    exact ev_if_neg (by omega) (ev_some _)
  | succ d ih =>
    intro i x hi hx h
    obtain ⟨hs1, hs2⟩ := copy_step l x i ByteArray.empty hx (by omega) h
    have w2 : Aside0 (wrap64 ((i : Int) + 1) = ((i + 1 : Nat) : Int)) := ⟨(wrap_in (by omega) (by omega)).trans (by omega)⟩
    have := ih (i + 1) _ (by omega) hs1 hs2
    refine ev_succ ?_
    simp only [laws_toStringS.l0, w2.out, Int.toNat_natCast]
    exact ev_if_pos (by omega) (ev_if_pos (by omega) (ev_if_pos (by omega) this))
theorem toStringS_ev (l : List ByteArray) (hl : l.length ≤ 1048576) : Ev (fun k => laws_toStringS.f k l) l := by
  unfold laws_toStringS.f
  exact ev_if_pos (by omega) (ev_if_pos (by omega) (toStringS_from l hl l.length 0 _ (by omega) (by simp) (fun j hj => absurd hj (by omega))))

theorem eqStringS_from (l : List ByteArray) (hl : l.length ≤ 100000000) (d : Nat) : ∀ i : Nat, i + d = l.length → Ev (fun k => laws_eqStringS.l0 k l l (i : Int)) true := by
  induction d with
  | zero =>
    intro i hi
    refine ev_succ ?_
    simp only [laws_eqStringS.l0]
    exact ev_if_neg (by omega) (ev_some _)
  | succ d ih =>
    intro i hi
    have := ih (i + 1) (by omega)
    refine ev_succ ?_
    have w2 : Aside0 (wrap64 ((i : Int) + 1) = ((i + 1 : Nat) : Int)) := ⟨(wrap_in (by omega) (by omega)).trans (by omega)⟩
    simp only [laws_eqStringS.l0, w2.out]
    exact ev_if_pos (by omega) (ev_if_pos (by omega) (ev_if_pos (by omega) (ev_if_pos trivial this)))
theorem eqStringS_ev (l : List ByteArray) (hl : l.length ≤ 100000000) : Ev (fun k => laws_eqStringS.f k l l) true := by
  unfold laws_eqStringS.f
  exact ev_if_pos rfl (eqStringS_from l hl l.length 0 (by omega))

/-- All are of a hash's size. -/
def allH (l : List ByteArray) : Bool := !(l.any impl_isHash.p)
theorem isHash_eq (l : List ByteArray) : impl_isHash.f l = some (allH l) := rfl
theorem allH_mem (l : List ByteArray) (h : allH l = true) : ∀ x ∈ l, x.size = 32 := by
  intro x hx
  unfold allH at h
  rw [Bool.not_eq_true', List.any_eq_false] at h
  have := h x hx
  unfold impl_isHash.p at this
  simp at this
  omega
theorem hashes_from (l : List ByteArray) (hl : l.length ≤ 1000000) (d : Nat) : ∀ i : Nat, i + d = l.length → Ev (fun k => spec_l06Hashes.l0 k l (i : Int)) (allH (l.drop i)) := by
  induction d with
  | zero =>
    intro i hi
    rw [List.drop_eq_nil_of_le (by omega)]
    refine ev_succ ?_
    simp only [spec_l06Hashes.l0]
    exact ev_if_neg (by omega) (ev_some _)
  | succ d ih =>
    intro i hi
    have w2 : Aside0 (wrap64 ((i : Int) + 1) = ((i + 1 : Nat) : Int)) := ⟨(wrap_in (by omega) (by omega)).trans (by omega)⟩
    have hm : rdOf ByteArray.empty l (i : Int) = l[i]'(by omega) := by
      unfold rdOf
      rw [Int.toNat_natCast, List.getD_eq_getElem?_getD, List.getElem?_eq_getElem (by omega), Option.getD_some]
    have he : allH (l.drop i) = (decide ((l[i]'(by omega)).size = 32) && allH (l.drop (i + 1))) := by
      rw [List.drop_eq_getElem_cons (by omega)]
      unfold allH impl_isHash.p
      rw [List.any_cons, Bool.not_or]
      congr 1
      rw [Bool.eq_iff_iff]
      simp
      omega
    rw [he]
    refine ev_succ ?_
    simp only [spec_l06Hashes.l0, w2.out, hm]
    refine ev_if_pos (by omega) (ev_if_pos (by omega) ?_)
    by_cases h : (l[i]'(by omega)).size = 32
    · rw [decide_eq_true h, Bool.true_and]
      exact ev_if_pos (by omega) (ih (i + 1) (by omega))
    · rw [decide_eq_false h, Bool.false_and]
      exact ev_if_neg (by omega) (ev_some _)
theorem hashes_ev (l : List ByteArray) (hl : l.length ≤ 1000000) : Ev (fun k => spec_l06Hashes.f k l) (decide (l.length ≤ 64) && allH l) := by
  unfold spec_l06Hashes.f
  by_cases h : (l.length : Int) > 64
  · rw [decide_eq_false (by omega), Bool.false_and]
    exact ev_if_pos h (ev_some _)
  · rw [decide_eq_true (by omega), Bool.true_and]
    have := hashes_from l hl l.length 0 (by omega)
    exact ev_if_neg h this

theorem within_is (a b c : Int) : impl_within.f a b c = some (decide (b ≤ a ∧ a ≤ c)) := by
  unfold impl_within.f
  split <;> simp only [Option.some.injEq] <;> rw [Bool.eq_iff_iff] <;> simp <;> omega
theorem in_is (a b c : Int) : spec_l01In.f a b c = some (decide (b ≤ a ∧ a ≤ c)) := by
  unfold spec_l01In.f
  split <;> simp only [Option.some.injEq] <;> rw [Bool.eq_iff_iff] <;> simp <;> omega

theorem isText_one (h : ByteArray) : impl_isText.f [h] = some (decide ((h.size : Int) ≤ 65536)) := by
  unfold impl_isText.f impl_isText.p
  simp only [List.any_cons, List.any_nil, Bool.or_false, Option.some.injEq]
  rw [Bool.eq_iff_iff]
  simp
theorem isHash_one (h : ByteArray) : impl_isHash.f [h] = some (decide ((h.size : Int) = 32)) := by
  unfold impl_isHash.f impl_isHash.p
  simp only [List.any_cons, List.any_nil, Bool.or_false, Option.some.injEq]
  rw [Bool.eq_iff_iff]
  simp

theorem proof_code (l : List ByteArray) (x : ByteArray) (k : Nat) : impl_proofCode.f (k + 1) l [x] = some (if (l.length : Int) ≤ 4096 ∧ (x.size : Int) ≤ 65536 then (if (x.size : Int) = 32 ∧ (l.length : Int) ≤ 64 ∧ allH l = true then 0 else 1) else 2) := by
  unfold impl_proofCode.f impl_isList_string.f
  simp only [Option.bind_some, isText_one, impl_proofCode.j0, isHash_one, isHash_eq l]
  by_cases h1 : (l.length : Int) ≤ 4096 <;> by_cases h2 : (x.size : Int) ≤ 65536 <;> by_cases h3 : (x.size : Int) = 32 <;> by_cases h4 : (l.length : Int) ≤ 64 <;> cases hH : allH l <;> simp [h1, h2, h3, h4] <;> omega
theorem both_InclusionRoot (x : ByteArray) (a n : Int) (l : List ByteArray) (hl : l.length ≤ 1048576) :
    ∃ (r : ByteArray) (e : Int), Ev (fun k => spec_InclusionRoot.f k x a n l) (r, e) ∧ Ev (fun k => impl_InclusionRoot.f k x a n l) (r, e) := by
  unfold spec_InclusionRoot.f impl_InclusionRoot.f
  by_cases h1 : (x.size : Int) > 65536
  · refine ⟨⟨#[]⟩, 2, ev_if_pos h1 (ev_some _), ?_⟩
    refine ev_succ ?_
    simp only [proof_code]
    rw [if_neg (by omega)]
    simp only [Option.bind_some]
    exact ev_if_neg (by omega) (ev_some _)
  · by_cases h2 : (l.length : Int) > 4096
    · refine ⟨⟨#[]⟩, 2, ev_if_neg h1 (ev_if_pos h2 (ev_some _)), ?_⟩
      refine ev_succ ?_
      simp only [proof_code]
      rw [if_neg (by omega)]
      simp only [Option.bind_some]
      exact ev_if_neg (by omega) (ev_some _)
    · have hs := hashes_ev l (by omega)
      by_cases hc : (x.size : Int) = 32 ∧ (l.length : Int) ≤ 64 ∧ allH l = true
      · obtain ⟨c1, c2, c3⟩ := hc
        have hb : (decide (l.length ≤ 64) && allH l) = true := by rw [c3, decide_eq_true (by omega)]; rfl
        have hsz : ∀ y ∈ l, y.size ≤ 100000000 := fun y hy => by have := allH_mem l c3 y hy; omega
        rw [hb] at hs
        have impl_ok : ∀ (r : ByteArray × Int), (impl_inclusionRoot.f x a n l).bind (fun bt => some (bt.1, bt.2.2)) = some r → Ev (fun k => (impl_proofCode.f k l [x]).bind fun t142 => (if t142 = 0 then ((impl_inclusionRoot.f x a n l).bind fun bt143 => (some (bt143.1, bt143.2.2))) else (some ((⟨#[]⟩ : ByteArray), t142)))) r := by
          intro r hr
          refine ev_succ ?_
          simp only [proof_code]
          rw [if_pos (by omega), if_pos ⟨c1, c2, c3⟩]
          show Ev (fun k => _) _
          simp only [Option.bind_some]
          refine ev_if_pos (by first | rfl | trivial) ?_
          rw [hr]
          exact ev_some _
        have hf : impl_inclusionRoot.f x a n l = some (if 1 ≤ n ∧ n ≤ 64 ∧ 0 ≤ a ∧ a ≤ n - 1 then impl_inclusionRoot.iroot (Go.Proofs.Ytpoaapedcmfcfaa.Mk.inclP x a.toNat n.toNat l false []) else (⟨#[]⟩, [], 4)) := by
          unfold impl_inclusionRoot.f
          rw [if_pos ⟨by omega, by rw [List.all_eq_true]; intro y hy; exact decide_eq_true (hsz y hy)⟩]
        by_cases hin : 1 ≤ n ∧ n ≤ 64 ∧ 0 ≤ a ∧ a ≤ n - 1
        · obtain ⟨g1, g2, g3, g4⟩ := hin
          obtain ⟨i, rfl⟩ := Int.eq_ofNat_of_zero_le g3
          obtain ⟨m, rfl⟩ := Int.eq_ofNat_of_zero_le (show 0 ≤ n by omega)
          have w : wrap64 ((m : Int) - 1) = (m : Int) - 1 := wrap_in (by omega) (by omega)
          have hup := spec_up_ev x (by omega) m i m l.reverse (Nat.le_refl _) (by omega) (by omega) (by omega) (by simp; omega) (fun y hy => hsz y (by simpa using hy))
          rw [List.reverse_reverse] at hup
          obtain ⟨s, hs2⟩ := incl_all x i m l
          rw [if_pos ⟨g1, g2, g3, g4⟩, Int.toNat_natCast, Int.toNat_natCast, hs2] at hf
          have hok := upI_ok x m i m l.reverse
          rw [List.length_reverse] at hok
          by_cases hd : l.length = depI m i m
          · rw [decide_eq_true hd] at hok
            rw [if_pos hd] at hf
            refine ⟨(upI x m i m l.reverse).1, 0, ?_, impl_ok _ (by rw [hf]; rfl)⟩
            refine ev_if_neg h1 (ev_if_neg h2 (ev_bind hs (ev_if_pos (by first | rfl | trivial) (ev_succ ?_))))
            simp only [spec_InclusionRoot.j0, in_is, Option.bind_some, w]
            refine ev_if_neg (by simp; omega) (ev_if_pos (decide_eq_true ⟨g1, g2⟩) (ev_succ ?_))
            simp only [spec_InclusionRoot.j1]
            exact ev_if_neg (by simp; omega) (ev_bind hup (ev_if_pos hok (ev_some _)))
          · rw [decide_eq_false hd] at hok
            rw [if_neg hd] at hf
            refine ⟨⟨#[]⟩, 10, ?_, impl_ok _ (by rw [hf]; rfl)⟩
            refine ev_if_neg h1 (ev_if_neg h2 (ev_bind hs (ev_if_pos (by first | rfl | trivial) (ev_succ ?_))))
            simp only [spec_InclusionRoot.j0, in_is, Option.bind_some, w]
            refine ev_if_neg (by simp; omega) (ev_if_pos (decide_eq_true ⟨g1, g2⟩) (ev_succ ?_))
            simp only [spec_InclusionRoot.j1]
            exact ev_if_neg (by simp; omega) (ev_bind hup (ev_if_neg (by rw [hok]; simp) (ev_some _)))
        · rw [if_neg hin] at hf
          refine ⟨⟨#[]⟩, 4, ?_, impl_ok _ (by rw [hf]; rfl)⟩
          refine ev_if_neg h1 (ev_if_neg h2 (ev_bind hs (ev_if_pos (by first | rfl | trivial) (ev_succ ?_))))
          simp only [spec_InclusionRoot.j0, in_is, Option.bind_some]
          by_cases g : 1 ≤ n ∧ n ≤ 64
          · have w : wrap64 (n - 1) = n - 1 := wrap_in (by omega) (by omega)
            simp only [w]
            refine ev_if_neg (by simp; omega) (ev_if_pos (decide_eq_true g) (ev_succ ?_))
            simp only [spec_InclusionRoot.j1]
            exact ev_if_pos (by rw [decide_eq_false (fun h => hin ⟨g.1, g.2, h.1, h.2⟩)]; rfl) (ev_some _)
          · refine ev_if_neg (by simp; omega) (ev_if_neg (by simp only [decide_eq_true_eq]; exact g) (ev_succ ?_))
            simp only [spec_InclusionRoot.j1]
            exact ev_if_pos (by first | rfl | trivial) (ev_some _)
      · refine ⟨⟨#[]⟩, 1, ?_, ?_⟩
        · refine ev_if_neg h1 (ev_if_neg h2 (ev_bind hs ?_))
          cases hb : (decide (l.length ≤ 64) && allH l)
          · refine ev_if_neg (by simp) (ev_succ ?_)
            simp only [spec_InclusionRoot.j0]
            exact ev_if_pos (by first | rfl | trivial) (ev_some _)
          · rw [Bool.and_eq_true, decide_eq_true_eq] at hb
            refine ev_if_pos (by first | rfl | trivial) (ev_succ ?_)
            simp only [spec_InclusionRoot.j0]
            exact ev_if_pos (bne_iff_ne.mpr (fun h => hc ⟨h, by omega, hb.2⟩)) (ev_some _)
        · refine ev_succ ?_
          simp only [proof_code]
          rw [if_pos (by omega), if_neg hc]
          simp only [Option.bind_some]
          exact ev_if_neg (by omega) (ev_some _)
theorem FnExactInclusionRoot : laws_FnExactInclusionRoot.Pure := by
  intro x a n l hx hwf1 hwf2 hg
  refine Ev.rounds (r := true) ?_
  unfold laws_FnExactInclusionRoot.f
  by_cases h : (x.size : Int) > 1048576
  · exact ev_if_pos h (ev_some _)
  · obtain ⟨s, hs, hr⟩ := szStringS_ev l hg.1 hg.2 1048576 (by omega) (by omega)
    refine ev_if_neg h (ev_bind hs ?_)
    rcases hr with rfl | ⟨h0, h1, hl, hx⟩
    · exact ev_if_pos (by omega) (ev_some _)
    · have hl' : l.length ≤ 1048576 := by omega
      have ht := toStringS_ev l hl'
      have he := eqStringS_ev l (by omega)
      obtain ⟨r, e, hs, hi⟩ := both_InclusionRoot x a n l hl'
      refine ev_if_neg (by omega) (ev_bind ht (ev_bind hs (ev_bind ht (ev_bind hi (ev_if_pos (by first | rfl | trivial) (ev_succ ?_))))))
      simp only [laws_FnExactInclusionRoot.j0]
      exact ev_if_neg (by simp) (ev_bind ht (ev_bind he (ev_if_pos (by first | rfl | trivial) (ev_some _))))
end Go.Proofs.Ytpoaapedcmfcfaa.Pure
