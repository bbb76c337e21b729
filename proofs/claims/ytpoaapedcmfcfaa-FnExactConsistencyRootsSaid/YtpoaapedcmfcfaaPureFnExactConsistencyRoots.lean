/- The program's ConsistencyRoots answers as the reference's at all hashes, sizes and proofs: the plain form. No conditions. -/
import Derived.Test.YtpoaapedcmfcfaaQFnExactConsistencyRoots
import Derived.Test.YtpoaapedcmfcfaaU
import Derived.Test.YtpoaapedcmfcfaaMk
namespace Go.Proofs.Ytpoaapedcmfcfaa.Pure
open Go.RowKit Go.Proofs.Ytpoaapedcmfcfaa.PFnExactConsistencyRoots Go.Proofs.YtpoaapedcmfcfaaW.PrintWords Go.Proofs.YtpoaapedcmfcfaaW.PrintLast Go.Proofs.YtpoaapedcmfcfaaW.PrintMore Go.Proofs.Ytpoaapedcmfcfaa.U
set_option linter.unusedVariables false
set_option linter.unusedSimpArgs false
/-- The greatest power of two below a number above one. -/
def halfGo : Nat → Nat → Nat → Nat
  | 0, _, x => x
  | f + 1, n, x => if 2 * x < n then halfGo f n (2 * x) else x
def halfN (n : Nat) : Nat := halfGo n n 1
theorem halfGo_lt (f : Nat) : ∀ (n x : Nat), 1 ≤ x → x < n → 1 ≤ halfGo f n x ∧ halfGo f n x < n := by
  induction f with
  | zero => intro n x h1 h2; exact ⟨h1, h2⟩
  | succ f ih =>
    intro n x h1 h2
    unfold halfGo
    split
    · exact ih n (2 * x) (by omega) (by omega)
    · exact ⟨h1, h2⟩
theorem halfN_lt (n : Nat) (h : 2 ≤ n) : 1 ≤ halfN n ∧ halfN n < n := halfGo_lt n n 1 (by omega) (by omega)
theorem half_ev (f : Nat) : ∀ (n x : Nat), n ≤ 1000000 → 1 ≤ x → x ≤ 1000000 → n - x ≤ f → Ev (fun k => spec_l06Half.l0 k (n : Int) (x : Int)) ((halfGo f n x : Nat) : Int) := by
  induction f with
  | zero =>
    intro n x hn h1 h2 hf
    have w1 : wrap64 (2 * (x : Int)) = 2 * (x : Int) := wrap_in (by omega) (by omega)
    refine ev_succ ?_
    simp only [spec_l06Half.l0, w1]
    exact ev_if_neg (by omega) (ev_some _)
  | succ f ih =>
    intro n x hn h1 h2 hf
    have w1 : Aside0 (wrap64 (2 * (x : Int)) = 2 * (x : Int)) := ⟨wrap_in (by omega) (by omega)⟩
    have w2 : Aside0 (wrap64 ((x : Int) * 2) = ((2 * x : Nat) : Int)) := ⟨(wrap_in (by omega) (by omega)).trans (by omega)⟩
    refine ev_succ ?_
    simp only [spec_l06Half.l0, w1.out, w2.out, halfGo]
    by_cases h : 2 * x < n
    · rw [if_pos h]
      exact ev_if_pos (by omega) (ih n (2 * x) hn (by omega) (by omega) (by omega))
    · rw [if_neg h]
      exact ev_if_neg (by omega) (ev_some _)
theorem split_ev (f : Nat) : ∀ (n x : Nat), n ≤ 1000000 → 1 ≤ x → x ≤ 1000000 → n - x ≤ f → Ev (fun k => impl_split.l0 k (n : Int) (x : Int)) ((halfGo f n x : Nat) : Int) := by
  induction f with
  | zero =>
    intro n x hn h1 h2 hf
    have w1 : wrap64 (2 * (x : Int)) = 2 * (x : Int) := wrap_in (by omega) (by omega)
    refine ev_succ ?_
    simp only [impl_split.l0, w1]
    exact ev_if_neg (by omega) (ev_some _)
  | succ f ih =>
    intro n x hn h1 h2 hf
    have w1 : Aside0 (wrap64 (2 * (x : Int)) = 2 * (x : Int)) := ⟨wrap_in (by omega) (by omega)⟩
    have w2 : Aside0 (wrap64 ((x : Int) * 2) = ((2 * x : Nat) : Int)) := ⟨(wrap_in (by omega) (by omega)).trans (by omega)⟩
    refine ev_succ ?_
    simp only [impl_split.l0, w1.out, w2.out, halfGo]
    by_cases h : 2 * x < n
    · rw [if_pos h]
      exact ev_if_pos (by omega) (ih n (2 * x) hn (by omega) (by omega) (by omega))
    · rw [if_neg h]
      exact ev_if_neg (by omega) (ev_some _)
theorem half_any (n : Nat) (hn : n ≤ 1000000) : Ev (fun k => spec_l06Half.f k (n : Int)) ((halfN n : Nat) : Int) := half_ev n n 1 hn (by omega) (by omega) (by omega)
theorem split_any (n : Nat) (hn : n ≤ 1000000) : Ev (fun k => impl_split.f k (n : Int)) ((halfN n : Nat) : Int) := split_ev n n 1 hn (by omega) (by omega) (by omega)

theorem hash_some (s : ByteArray) (h : s.size ≤ 1099511627776) : impl_hash.f s = some (Go.Proofs.Ytpoaapedcmfcfaa.Hash.sha s) := by
  unfold impl_hash.f
  rw [if_pos h]
theorem lhash_some (l : List Int) (hb : ∀ x ∈ l, 0 ≤ x ∧ x < 256) (h : l.length ≤ 1099511627776) : spec_l01Hash.f l = some (Go.Proofs.Ytpoaapedcmfcfaa.Hash.sha (strOfNums l)) := by
  unfold spec_l01Hash.f
  rw [if_pos h, Go.Proofs.Ytpoaapedcmfcfaa.SHash.shaL_eq l hb]
theorem bytesOf_len (s : ByteArray) : (bytesOf s).length = s.size := bytesOf_length s

/-- What two hashes come to. -/
def nodeOf (a b : ByteArray) : ByteArray := Go.Proofs.Ytpoaapedcmfcfaa.Hash.sha ((⟨#[1]⟩ : ByteArray) ++ a ++ b)
theorem nodeOf_size (a b : ByteArray) : (nodeOf a b).size = 32 := Go.Proofs.Ytpoaapedcmfcfaa.SHash.sha_size _
theorem impl_node (a b : ByteArray) (ha : a.size ≤ 100000000) (hb : b.size ≤ 100000000) : impl_nodeHash.f a b = some (nodeOf a b) := by
  unfold impl_nodeHash.f
  rw [if_pos (by omega), if_pos (by omega), hash_some _ (by rw [ByteArray.size_append, ByteArray.size_append]; show 1 + _ + _ ≤ _; omega)]
  rfl
theorem spec_node (a b : ByteArray) (ha : a.size ≤ 100000000) (hb : b.size ≤ 100000000) : spec_l06Node.f a b = some (nodeOf a b) := by
  unfold spec_l06Node.f
  simp only [Option.bind_some]
  rw [if_pos (by show 1 + _ < _; omega), if_pos (by rw [List.length_append, bytesOf_len]; show 1 + _ + _ < _; omega), lhash_some _ (fun x hx => by
    simp only [List.mem_append, List.mem_cons, List.not_mem_nil, or_false] at hx
    rcases hx with (rfl | h) | h
    · omega
    · exact bytesOf_range a x h
    · exact bytesOf_range b x h) (by rw [List.length_append, List.length_append, bytesOf_len, bytesOf_len]; show 1 + _ + _ ≤ _; omega)]
  rw [strOfNums_append, strOfNums_append, strOfNums_bytesOf, strOfNums_bytesOf]
  rfl

theorem halfGo_mk (f : Nat) : ∀ n x : Nat, halfGo f n x = Go.Proofs.Ytpoaapedcmfcfaa.Mk.halfGo f n x := by
  induction f with
  | zero => intro n x; rfl
  | succ f ih =>
    intro n x
    simp only [halfGo, Go.Proofs.Ytpoaapedcmfcfaa.Mk.halfGo]
    split
    · exact ih n _
    · rfl
theorem half_mk (n : Nat) (hn : n ≤ 1000000) : Ev (fun k => spec_l06Half.f k (n : Int)) ((Go.Proofs.Ytpoaapedcmfcfaa.Mk.halfN n : Nat) : Int) := by
  have := half_any n hn
  unfold halfN at this
  rw [halfGo_mk] at this
  exact this
theorem node_mk (a b : ByteArray) (ha : a.size ≤ 100000000) (hb : b.size ≤ 100000000) : spec_l06Node.f a b = some (Go.Proofs.Ytpoaapedcmfcfaa.Mk.nodeOf a b) := spec_node a b ha hb
/-- How a list ends. -/
theorem rev_len (z : ByteArray) (ys : List ByteArray) : (z :: ys).reverse.length = ys.length + 1 := by simp
theorem rev_take (z : ByteArray) (ys : List ByteArray) : (z :: ys).reverse.take ys.length = ys.reverse := by
  rw [List.reverse_cons]
  exact List.take_left' (by simp)
theorem rev_last (z : ByteArray) (ys : List ByteArray) : rdOf ByteArray.empty (z :: ys).reverse (ys.length : Int) = z := by
  unfold rdOf
  rw [Int.toNat_natCast, List.getD_eq_getElem?_getD, List.reverse_cons, List.getElem?_append_right (by simp)]
  simp

theorem next_bad (xs : List ByteArray) : (Go.Proofs.Ytpoaapedcmfcfaa.Mk.nextP xs true).2.2 = true := by cases xs <;> rfl
/-- How many hashes a proof of growth has. -/
def depG : Nat → Nat → Nat → Bool → Nat
  | 0, _, _, _ => 0
  | f + 1, m, n, known => if m = n then (if known then 0 else 1) else if m ≤ Go.Proofs.Ytpoaapedcmfcfaa.Mk.halfN n then depG f m (Go.Proofs.Ytpoaapedcmfcfaa.Mk.halfN n) known + 1 else depG f (m - Go.Proofs.Ytpoaapedcmfcfaa.Mk.halfN n) (n - Go.Proofs.Ytpoaapedcmfcfaa.Mk.halfN n) false + 1
/-- What a root and hashes (the last one first) lead to, and whether there are as many as there should be. -/
def upG (root : ByteArray) : Nat → Nat → Nat → Bool → List ByteArray → ByteArray × ByteArray × Bool
  | 0, _, _, _, ys => (root, root, decide (ys.length = 0))
  | _ + 1, m, n, known, [] => if m = n then (if known then (root, root, true) else (⟨#[]⟩, ⟨#[]⟩, false)) else (⟨#[]⟩, ⟨#[]⟩, false)
  | f + 1, m, n, known, z :: ys => if m = n then (if known then (root, root, false) else if ys.length = 0 then (z, z, true) else (⟨#[]⟩, ⟨#[]⟩, false))
    else if m ≤ Go.Proofs.Ytpoaapedcmfcfaa.Mk.halfN n then ((upG root f m (Go.Proofs.Ytpoaapedcmfcfaa.Mk.halfN n) known ys).1, Go.Proofs.Ytpoaapedcmfcfaa.Mk.nodeOf (upG root f m (Go.Proofs.Ytpoaapedcmfcfaa.Mk.halfN n) known ys).2.1 z, (upG root f m (Go.Proofs.Ytpoaapedcmfcfaa.Mk.halfN n) known ys).2.2)
    else (Go.Proofs.Ytpoaapedcmfcfaa.Mk.nodeOf z (upG root f (m - Go.Proofs.Ytpoaapedcmfcfaa.Mk.halfN n) (n - Go.Proofs.Ytpoaapedcmfcfaa.Mk.halfN n) false ys).1, Go.Proofs.Ytpoaapedcmfcfaa.Mk.nodeOf z (upG root f (m - Go.Proofs.Ytpoaapedcmfcfaa.Mk.halfN n) (n - Go.Proofs.Ytpoaapedcmfcfaa.Mk.halfN n) false ys).2.1, (upG root f (m - Go.Proofs.Ytpoaapedcmfcfaa.Mk.halfN n) (n - Go.Proofs.Ytpoaapedcmfcfaa.Mk.halfN n) false ys).2.2)
theorem upG_ok (root : ByteArray) (f : Nat) : ∀ (m n : Nat) (known : Bool) (ys : List ByteArray), n ≤ f → 1 ≤ m → m ≤ n → (upG root f m n known ys).2.2 = decide (ys.length = depG f m n known) := by
  induction f with
  | zero => intro m n known ys h1 h2 h3; omega
  | succ f ih =>
    intro m n known ys h1 h2 h3
    by_cases he : m = n
    · cases ys with
      | nil => cases known <;> simp [upG, depG, he]
      | cons z ys => cases known <;> simp [upG, depG, he]; split <;> simp_all
    · have hh := Go.Proofs.Ytpoaapedcmfcfaa.Mk.halfN_lt n (by omega)
      cases ys with
      | nil =>
        simp only [upG, depG, if_neg he]
        split <;> rw [decide_eq_false (by simp only [List.length_nil]; omega)]
      | cons z ys =>
        simp only [upG, depG, if_neg he]
        by_cases hlow : m ≤ Go.Proofs.Ytpoaapedcmfcfaa.Mk.halfN n
        · rw [if_pos hlow, if_pos hlow]
          show (upG root f m _ known ys).2.2 = _
          rw [ih m _ known ys (by omega) h2 hlow, Bool.eq_iff_iff]
          simp
        · rw [if_neg hlow, if_neg hlow]
          show (upG root f _ _ false ys).2.2 = _
          rw [ih _ _ false ys (by omega) (by omega) (by omega), Bool.eq_iff_iff]
          simp
theorem upG_size (root : ByteArray) (hl : root.size ≤ 100000000) (f : Nat) : ∀ (m n : Nat) (known : Bool) (ys : List ByteArray), (∀ x ∈ ys, x.size ≤ 100000000) → (upG root f m n known ys).1.size ≤ 100000000 ∧ (upG root f m n known ys).2.1.size ≤ 100000000 := by
  induction f with
  | zero => intro m n known ys _; exact ⟨hl, hl⟩
  | succ f ih =>
    intro m n known ys hx
    have z0 : (⟨#[]⟩ : ByteArray).size ≤ 100000000 := Nat.zero_le _
    cases ys with
    | nil =>
      simp only [upG]
      split
      · split
        · exact ⟨hl, hl⟩
        · exact ⟨z0, z0⟩
      · exact ⟨z0, z0⟩
    | cons z ys =>
      have hz := hx z List.mem_cons_self
      have hx' : ∀ x ∈ ys, x.size ≤ 100000000 := fun x h => hx x (List.mem_cons_of_mem _ h)
      simp only [upG]
      split
      · split
        · exact ⟨hl, hl⟩
        · split
          · exact ⟨hz, hz⟩
          · exact ⟨z0, z0⟩
      · split
        · exact ⟨(ih _ _ _ _ hx').1, by show (Go.Proofs.Ytpoaapedcmfcfaa.Mk.nodeOf _ _).size ≤ _; rw [Go.Proofs.Ytpoaapedcmfcfaa.Mk.nodeOf_size]; omega⟩
        · constructor <;> (show (Go.Proofs.Ytpoaapedcmfcfaa.Mk.nodeOf _ _).size ≤ _; rw [Go.Proofs.Ytpoaapedcmfcfaa.Mk.nodeOf_size]; omega)
theorem spec_both_ev (root : ByteArray) (hl : root.size ≤ 100000000) (f : Nat) : ∀ (m n : Nat) (known : Bool) (ys : List ByteArray), n ≤ f → 1 ≤ m → m ≤ n → n ≤ 1000000 → ys.length ≤ 1000000 → (∀ x ∈ ys, x.size ≤ 100000000) →
    Ev (fun k => spec_l06Both.f k (m : Int) (n : Int) root ys.reverse known) (upG root f m n known ys) := by
  induction f with
  | zero => intro m n known ys h h1 h2; omega
  | succ f ih =>
    intro m n known ys hf h1 h2 hn hy hx
    refine ev_succ ?_
    cases ys with
    | nil =>
      simp only [spec_l06Both.f, upG, List.reverse_nil, List.length_nil]
      by_cases h : m = n
      · rw [if_pos h]
        refine ev_if_pos (by omega) ?_
        cases known
        · exact ev_if_neg (by simp) (ev_if_neg (by simp) (ev_some _))
        · exact ev_if_pos (by first | rfl | trivial) (ev_some _)
      · rw [if_neg h]
        exact ev_if_neg (by omega) (ev_if_pos (by simp) (ev_some _))
    | cons z ys =>
      have hz := hx z List.mem_cons_self
      have hx' : ∀ x ∈ ys, x.size ≤ 100000000 := fun x h => hx x (List.mem_cons_of_mem _ h)
      rw [List.length_cons] at hy
      have w : wrap64 (((ys.length + 1 : Nat) : Int) - 1) = (ys.length : Int) := (wrap_in (by omega) (by omega)).trans (by omega)
      simp only [spec_l06Both.f, upG, rev_len, w, Int.toNat_natCast, rev_take, rev_last]
      clear w
      by_cases h : m = n
      · rw [if_pos h]
        refine ev_if_pos (by omega) ?_
        cases known
        · by_cases hy0 : ys.length = 0
          · obtain rfl := List.eq_nil_of_length_eq_zero hy0
            exact ev_if_neg (by simp) (ev_if_pos (by simp) (ev_if_pos (by simp) (ev_some _)))
          · have e2 : (if (false : Bool) = true then (root, root, false) else if ys.length = 0 then (z, z, true) else ((⟨#[]⟩ : ByteArray), (⟨#[]⟩ : ByteArray), false)) = (⟨#[]⟩, ⟨#[]⟩, false) := by simp [hy0]
            rw [e2]
            exact ev_if_neg (by simp) (ev_if_neg (by omega) (ev_some _))
        · have e3 : (if (true : Bool) = true then (root, root, false) else if ys.length = 0 then (z, z, true) else ((⟨#[]⟩ : ByteArray), (⟨#[]⟩ : ByteArray), false)) = (root, root, false) := rfl
          rw [e3]
          refine ev_if_pos (by first | rfl | trivial) ?_
          rw [show (((ys.length + 1 : Nat) : Int) == 0) = false from beq_eq_false_iff_ne.mpr (by omega)]
          exact ev_some _
      · have hh := Go.Proofs.Ytpoaapedcmfcfaa.Mk.halfN_lt n (by omega)
        rw [if_neg h]
        refine ev_if_neg (by omega) (ev_if_neg (by omega) (ev_bind (half_mk n hn) (ev_if_pos (by omega) (ev_if_pos (by omega) (ev_if_pos (by omega) ?_)))))
        by_cases hlow : m ≤ Go.Proofs.Ytpoaapedcmfcfaa.Mk.halfN n
        · rw [if_pos hlow]
          refine ev_if_pos (by omega) (ev_bind (ih m (Go.Proofs.Ytpoaapedcmfcfaa.Mk.halfN n) known ys (by omega) h1 hlow (by omega) (by omega) hx') ?_)
          rw [node_mk _ _ (upG_size root hl _ _ _ _ _ hx').2 hz]
          exact ev_some _
        · rw [if_neg hlow]
          have w1 : wrap64 ((m : Int) - ((Go.Proofs.Ytpoaapedcmfcfaa.Mk.halfN n : Nat) : Int)) = ((m - Go.Proofs.Ytpoaapedcmfcfaa.Mk.halfN n : Nat) : Int) := (wrap_in (by omega) (by omega)).trans (by omega)
          have w2 : wrap64 ((n : Int) - ((Go.Proofs.Ytpoaapedcmfcfaa.Mk.halfN n : Nat) : Int)) = ((n - Go.Proofs.Ytpoaapedcmfcfaa.Mk.halfN n : Nat) : Int) := (wrap_in (by omega) (by omega)).trans (by omega)
          rw [w1, w2]
          clear w1 w2
          refine ev_if_neg (by omega) (ev_bind (ih (m - Go.Proofs.Ytpoaapedcmfcfaa.Mk.halfN n) (n - Go.Proofs.Ytpoaapedcmfcfaa.Mk.halfN n) false ys (by omega) (by omega) (by omega) (by omega) (by omega) hx') ?_)
          rw [node_mk _ _ hz (upG_size root hl _ _ _ _ _ hx').1, node_mk _ _ hz (upG_size root hl _ _ _ _ _ hx').2]
          exact ev_some _
theorem grow_just (root : ByteArray) (f : Nat) : ∀ (m n : Nat) (known : Bool) (ys rest : List ByteArray) (b : Bool), n ≤ f → 1 ≤ m → m ≤ n → ys.length = depG f m n known →
    Go.Proofs.Ytpoaapedcmfcfaa.Mk.growP m n known root (ys.reverse ++ rest) b = ((upG root f m n known ys).1, (upG root f m n known ys).2.1, rest, b) := by
  induction f with
  | zero => intro m n known ys rest b hf h1 h2; omega
  | succ f ih =>
    intro m n known ys rest b hf h1 h2 hy
    simp only [depG] at hy
    by_cases h : m = n
    · subst h
      rw [if_pos rfl] at hy
      cases known with
      | true =>
        rw [if_pos rfl] at hy
        obtain rfl := List.eq_nil_of_length_eq_zero hy
        rw [Go.Proofs.Ytpoaapedcmfcfaa.Mk.growP_known]
        simp [upG]
      | false =>
        rw [if_neg (by simp)] at hy
        obtain ⟨z, rfl⟩ := List.length_eq_one_iff.1 hy
        rw [Go.Proofs.Ytpoaapedcmfcfaa.Mk.growP_next]
        simp [upG, Go.Proofs.Ytpoaapedcmfcfaa.Mk.nextP]
    · rw [if_neg h] at hy
      have hh := Go.Proofs.Ytpoaapedcmfcfaa.Mk.halfN_lt n (by omega)
      cases ys with
      | nil => exfalso; split at hy <;> (simp only [List.length_nil] at hy; omega)
      | cons z ys =>
        have e : (z :: ys).reverse ++ rest = ys.reverse ++ (z :: rest) := by simp
        rw [List.length_cons] at hy
        simp only [upG, if_neg h]
        rw [e]
        by_cases hlow : m ≤ Go.Proofs.Ytpoaapedcmfcfaa.Mk.halfN n
        · rw [if_pos hlow] at hy
          rw [Go.Proofs.Ytpoaapedcmfcfaa.Mk.growP_low _ _ _ _ _ _ h (by omega) hlow, if_pos hlow, ih m (Go.Proofs.Ytpoaapedcmfcfaa.Mk.halfN n) known ys (z :: rest) b (by omega) h1 hlow (by omega)]
          rfl
        · rw [if_neg hlow] at hy
          rw [Go.Proofs.Ytpoaapedcmfcfaa.Mk.growP_high _ _ _ _ _ _ h (by omega) hlow, if_neg hlow, ih (m - Go.Proofs.Ytpoaapedcmfcfaa.Mk.halfN n) (n - Go.Proofs.Ytpoaapedcmfcfaa.Mk.halfN n) false ys (z :: rest) b (by omega) (by omega) (by omega) (by omega)]
          rfl
theorem grow_less (root : ByteArray) (f : Nat) : ∀ (m n : Nat) (known : Bool) (xs : List ByteArray) (b : Bool), n ≤ f → 1 ≤ m → m ≤ n → xs.length < depG f m n known →
    (Go.Proofs.Ytpoaapedcmfcfaa.Mk.growP m n known root xs b).2.2.2 = true := by
  induction f with
  | zero => intro m n known xs b hf h1 h2; omega
  | succ f ih =>
    intro m n known xs b hf h1 h2 hy
    simp only [depG] at hy
    by_cases h : m = n
    · subst h
      rw [if_pos rfl] at hy
      cases known with
      | true => rw [if_pos rfl] at hy; omega
      | false =>
        rw [if_neg (by simp)] at hy
        obtain rfl := List.eq_nil_of_length_eq_zero (by omega : xs.length = 0)
        rw [Go.Proofs.Ytpoaapedcmfcfaa.Mk.growP_next]
        rfl
    · rw [if_neg h] at hy
      have hh := Go.Proofs.Ytpoaapedcmfcfaa.Mk.halfN_lt n (by omega)
      by_cases hlow : m ≤ Go.Proofs.Ytpoaapedcmfcfaa.Mk.halfN n
      · rw [if_pos hlow] at hy
        rw [Go.Proofs.Ytpoaapedcmfcfaa.Mk.growP_low _ _ _ _ _ _ h (by omega) hlow]
        show (Go.Proofs.Ytpoaapedcmfcfaa.Mk.nextP _ _).2.2 = true
        by_cases he : xs.length = depG f m (Go.Proofs.Ytpoaapedcmfcfaa.Mk.halfN n) known
        · have hs := grow_just root f m (Go.Proofs.Ytpoaapedcmfcfaa.Mk.halfN n) known xs.reverse [] b (by omega) h1 hlow (by simpa using he)
          rw [List.reverse_reverse, List.append_nil] at hs
          rw [hs]
          rfl
        · rw [ih m (Go.Proofs.Ytpoaapedcmfcfaa.Mk.halfN n) known xs b (by omega) h1 hlow (by omega)]
          exact next_bad _
      · rw [if_neg hlow] at hy
        rw [Go.Proofs.Ytpoaapedcmfcfaa.Mk.growP_high _ _ _ _ _ _ h (by omega) hlow]
        show (Go.Proofs.Ytpoaapedcmfcfaa.Mk.nextP _ _).2.2 = true
        by_cases he : xs.length = depG f (m - Go.Proofs.Ytpoaapedcmfcfaa.Mk.halfN n) (n - Go.Proofs.Ytpoaapedcmfcfaa.Mk.halfN n) false
        · have hs := grow_just root f (m - Go.Proofs.Ytpoaapedcmfcfaa.Mk.halfN n) (n - Go.Proofs.Ytpoaapedcmfcfaa.Mk.halfN n) false xs.reverse [] b (by omega) (by omega) (by omega) (by simpa using he)
          rw [List.reverse_reverse, List.append_nil] at hs
          rw [hs]
          rfl
        · rw [ih (m - Go.Proofs.Ytpoaapedcmfcfaa.Mk.halfN n) (n - Go.Proofs.Ytpoaapedcmfcfaa.Mk.halfN n) false xs b (by omega) (by omega) (by omega) (by omega)]
          exact next_bad _
/-- Just as many as there should be: the hashes; else a code. -/
theorem grow_all (root : ByteArray) (m n : Nat) (l : List ByteArray) (h1 : 1 ≤ m) (h2 : m ≤ n) : impl_growthRoots.groot (Go.Proofs.Ytpoaapedcmfcfaa.Mk.growP m n true root l false) = if l.length = depG n m n true then ((upG root n m n true l.reverse).1, (upG root n m n true l.reverse).2.1, 0) else (⟨#[]⟩, ⟨#[]⟩, 10) := by
  rcases Nat.lt_trichotomy l.length (depG n m n true) with h | h | h
  · rw [if_neg (by omega), impl_growthRoots.groot, if_pos (.inl (grow_less root n m n true l false (Nat.le_refl _) h1 h2 h))]
  · have hs := grow_just root n m n true l.reverse [] false (Nat.le_refl _) h1 h2 (by simpa using h)
    rw [List.reverse_reverse, List.append_nil] at hs
    rw [if_pos h, hs, impl_growthRoots.groot, if_neg (by simp)]
  · have hs := grow_just root n m n true (l.take (depG n m n true)).reverse (l.drop (depG n m n true)) false (Nat.le_refl _) h1 h2 (by simp; omega)
    rw [List.reverse_reverse, List.take_append_drop] at hs
    rw [if_neg (by omega), hs, impl_growthRoots.groot, if_pos (.inr (by simp; omega))]

theorem szStringS_from (l : List ByteArray) (hg : ∀ x ∈ l, x.size ≤ maxLen) (d : Nat) : ∀ (i : Nat) (v : Int), i + d = l.length → 0 ≤ v → v ≤ 1048576 → l.length ≤ 1048576 →
    ∃ s, Ev (fun k => laws_szStringS.l0 k l v (i : Int)) s ∧ (s = -1 ∨ 0 ≤ s ∧ s ≤ v ∧ ∀ x ∈ l.drop i, (x.size : Int) ≤ v) := by
  induction d with
  | zero =>
    intro i v hi h0 h1 hl
    refine ⟨v, ev_succ ?_, .inr ⟨h0, Int.le_refl _, fun x hx => by rw [List.drop_eq_nil_of_le (by omega)] at hx; simp at hx⟩⟩
    simp only [laws_szStringS.l0]
    exact ev_if_neg (by omega) (ev_some _)
  | succ d ih =>
    intro i v hi h0 h1 hl
    have hm : rdOf ByteArray.empty l (i : Int) = l[i]'(by omega) := by
      unfold rdOf
      rw [Int.toNat_natCast, List.getD_eq_getElem?_getD, List.getElem?_eq_getElem (by omega), Option.getD_some]
    have hsz := hg (l[i]'(by omega)) (List.getElem_mem _)
    unfold maxLen at hsz
    have w1 : Aside0 (wrap64 (v - ((rdOf ByteArray.empty l (i : Int)).size : Int)) = v - ((l[i]'(by omega)).size : Int)) := ⟨by rw [hm]; exact wrap_in (by omega) (by omega)⟩
    have w2 : Aside0 (wrap64 ((i : Int) + 1) = ((i + 1 : Nat) : Int)) := ⟨(wrap_in (by omega) (by omega)).trans (by omega)⟩
    by_cases hneg : v - ((l[i]'(by omega)).size : Int) < 0
    · refine ⟨-1, ev_succ ?_, .inl rfl⟩
      simp only [laws_szStringS.l0, w1.out, w2.out]
      exact ev_if_pos (by omega) (ev_if_pos (by omega) (ev_if_pos hneg (ev_some _)))
    · obtain ⟨s, hs, hr⟩ := ih (i + 1) (v - ((l[i]'(by omega)).size : Int)) (by omega) (by omega) (by omega) hl
      refine ⟨s, ev_succ ?_, ?_⟩
      · simp only [laws_szStringS.l0, w1.out, w2.out]
        exact ev_if_pos (by omega) (ev_if_pos (by omega) (ev_if_neg hneg hs))
      · rcases hr with h | ⟨ha, hb, hc⟩
        · exact .inl h
        · refine .inr ⟨ha, by omega, fun x hx => ?_⟩
          rw [List.drop_eq_getElem_cons (by omega)] at hx
          rcases List.mem_cons.1 hx with rfl | hx
          · omega
          · have := hc x hx
            omega
theorem szStringS_ev (l : List ByteArray) (hl : l.length ≤ maxLen) (hg : ∀ x ∈ l, x.size ≤ maxLen) (n : Int) (hn : 0 ≤ n) (hn1 : n ≤ 1048576) : ∃ s, Ev (fun k => laws_szStringS.f k l n) s ∧ (s = -1 ∨ 0 ≤ s ∧ s ≤ n ∧ (l.length : Int) ≤ n ∧ ∀ x ∈ l, (x.size : Int) ≤ n) := by
  unfold maxLen at hl
  have hw : wrap64 (n - (l.length : Int)) = n - (l.length : Int) := wrap_in (by omega) (by omega)
  unfold laws_szStringS.f
  rw [hw]
  by_cases h : n - (l.length : Int) < 0
  · exact ⟨-1, ev_if_pos h (ev_some _), .inl rfl⟩
  · obtain ⟨s, hs, hr⟩ := szStringS_from l hg l.length 0 (n - (l.length : Int)) (by omega) (by omega) (by omega) (by omega)
    refine ⟨s, ev_if_neg h hs, ?_⟩
    rcases hr with h | ⟨ha, hb, hc⟩
    · exact .inl h
    · exact .inr ⟨ha, by omega, by omega, fun x hx => by have := hc x (by simpa using hx); omega⟩

theorem toStringS_from (l : List ByteArray) (hl : l.length ≤ 1048576) (d : Nat) : ∀ (i : Nat) (x : List ByteArray), i + d = l.length → x.length = l.length → (∀ j, j < i → x[j]? = l[j]?) → Ev (fun k => laws_toStringS.l0 k l x (i : Int)) l := by
  induction d with
  | zero =>
    intro i x hi hx h
    refine ev_succ ?_
    simp only [laws_toStringS.l0]
    have := copy_end l x hx (fun j hj => h j (by omega))
    subst this
    exact ev_if_neg (by omega) (ev_some _)
  | succ d ih =>
    intro i x hi hx h
    obtain ⟨hs1, hs2⟩ := copy_step l x i ByteArray.empty hx (by omega) h
    have w2 : Aside0 (wrap64 ((i : Int) + 1) = ((i + 1 : Nat) : Int)) := ⟨(wrap_in (by omega) (by omega)).trans (by omega)⟩
    have := ih (i + 1) _ (by omega) hs1 hs2
    refine ev_succ ?_
    simp only [laws_toStringS.l0, w2.out, Int.toNat_natCast]
    exact ev_if_pos (by omega) (ev_if_pos (by omega) (ev_if_pos (by omega) this))
theorem toStringS_ev (l : List ByteArray) (hl : l.length ≤ 1048576) : Ev (fun k => laws_toStringS.f k l) l := by
  unfold laws_toStringS.f
  exact ev_if_pos (by omega) (ev_if_pos (by omega) (toStringS_from l hl l.length 0 _ (by omega) (by simp) (fun j hj => absurd hj (by omega))))

theorem eqStringS_from (l : List ByteArray) (hl : l.length ≤ 100000000) (d : Nat) : ∀ i : Nat, i + d = l.length → Ev (fun k => laws_eqStringS.l0 k l l (i : Int)) true := by
  induction d with
  | zero =>
    intro i hi
    refine ev_succ ?_
    simp only [laws_eqStringS.l0]
    exact ev_if_neg (by omega) (ev_some _)
  | succ d ih =>
    intro i hi
    have := ih (i + 1) (by omega)
    refine ev_succ ?_
    have w2 : Aside0 (wrap64 ((i : Int) + 1) = ((i + 1 : Nat) : Int)) := ⟨(wrap_in (by omega) (by omega)).trans (by omega)⟩
    simp only [laws_eqStringS.l0, w2.out]
    exact ev_if_pos (by omega) (ev_if_pos (by omega) (ev_if_pos (by omega) (ev_if_pos trivial this)))
theorem eqStringS_ev (l : List ByteArray) (hl : l.length ≤ 100000000) : Ev (fun k => laws_eqStringS.f k l l) true := by
  unfold laws_eqStringS.f
  exact ev_if_pos rfl (eqStringS_from l hl l.length 0 (by omega))

theorem within_is (a b c : Int) : impl_within.f a b c = some (decide (b ≤ a ∧ a ≤ c)) := by
  unfold impl_within.f
  split <;> simp only [Option.some.injEq] <;> rw [Bool.eq_iff_iff] <;> simp <;> omega
theorem in_is (a b c : Int) : spec_l01In.f a b c = some (decide (b ≤ a ∧ a ≤ c)) := by
  unfold spec_l01In.f
  split <;> simp only [Option.some.injEq] <;> rw [Bool.eq_iff_iff] <;> simp <;> omega

theorem isText_one (h : ByteArray) : impl_isText.f [h] = some (decide ((h.size : Int) ≤ 65536)) := by
  unfold impl_isText.f impl_isText.p
  simp only [List.any_cons, List.any_nil, Bool.or_false, Option.some.injEq]
  rw [Bool.eq_iff_iff]
  simp
theorem isHash_one (h : ByteArray) : impl_isHash.f [h] = some (decide ((h.size : Int) = 32)) := by
  unfold impl_isHash.f impl_isHash.p
  simp only [List.any_cons, List.any_nil, Bool.or_false, Option.some.injEq]
  rw [Bool.eq_iff_iff]
  simp

/-- All are of a hash's size. -/
def allH (l : List ByteArray) : Bool := !(l.any impl_isHash.p)
theorem isHash_eq (l : List ByteArray) : impl_isHash.f l = some (allH l) := rfl
theorem allH_mem (l : List ByteArray) (h : allH l = true) : ∀ x ∈ l, x.size = 32 := by
  intro x hx
  unfold allH at h
  rw [Bool.not_eq_true', List.any_eq_false] at h
  have := h x hx
  unfold impl_isHash.p at this
  simp at this
  omega
theorem hashes_from (l : List ByteArray) (hl : l.length ≤ 1000000) (d : Nat) : ∀ i : Nat, i + d = l.length → Ev (fun k => spec_l06Hashes.l0 k l (i : Int)) (allH (l.drop i)) := by
  induction d with
  | zero =>
    intro i hi
    rw [List.drop_eq_nil_of_le (by omega)]
    refine ev_succ ?_
    simp only [spec_l06Hashes.l0]
    exact ev_if_neg (by omega) (ev_some _)
  | succ d ih =>
    intro i hi
    have w2 : Aside0 (wrap64 ((i : Int) + 1) = ((i + 1 : Nat) : Int)) := ⟨(wrap_in (by omega) (by omega)).trans (by omega)⟩
    have hm : rdOf ByteArray.empty l (i : Int) = l[i]'(by omega) := by
      unfold rdOf
      rw [Int.toNat_natCast, List.getD_eq_getElem?_getD, List.getElem?_eq_getElem (by omega), Option.getD_some]
    have he : allH (l.drop i) = (decide ((l[i]'(by omega)).size = 32) && allH (l.drop (i + 1))) := by
      rw [List.drop_eq_getElem_cons (by omega)]
      unfold allH impl_isHash.p
      rw [List.any_cons, Bool.not_or]
      congr 1
      rw [Bool.eq_iff_iff]
      simp
      omega
    rw [he]
    refine ev_succ ?_
    simp only [spec_l06Hashes.l0, w2.out, hm]
    refine ev_if_pos (by omega) (ev_if_pos (by omega) ?_)
    by_cases h : (l[i]'(by omega)).size = 32
    · rw [decide_eq_true h, Bool.true_and]
      exact ev_if_pos (by omega) (ih (i + 1) (by omega))
    · rw [decide_eq_false h, Bool.false_and]
      exact ev_if_neg (by omega) (ev_some _)
theorem hashes_ev (l : List ByteArray) (hl : l.length ≤ 1000000) : Ev (fun k => spec_l06Hashes.f k l) (decide (l.length ≤ 64) && allH l) := by
  unfold spec_l06Hashes.f
  by_cases h : (l.length : Int) > 64
  · rw [decide_eq_false (by omega), Bool.false_and]
    exact ev_if_pos h (ev_some _)
  · rw [decide_eq_true (by omega), Bool.true_and]
    have := hashes_from l hl l.length 0 (by omega)
    exact ev_if_neg h this

theorem proof_code (l : List ByteArray) (x : ByteArray) (k : Nat) : impl_proofCode.f (k + 1) l [x] = some (if (l.length : Int) ≤ 4096 ∧ (x.size : Int) ≤ 65536 then (if (x.size : Int) = 32 ∧ (l.length : Int) ≤ 64 ∧ allH l = true then 0 else 1) else 2) := by
  unfold impl_proofCode.f impl_isList_string.f
  simp only [Option.bind_some, isText_one, impl_proofCode.j0, isHash_one, isHash_eq l]
  by_cases h1 : (l.length : Int) ≤ 4096 <;> by_cases h2 : (x.size : Int) ≤ 65536 <;> by_cases h3 : (x.size : Int) = 32 <;> by_cases h4 : (l.length : Int) ≤ 64 <;> cases hH : allH l <;> simp [h1, h2, h3, h4] <;> omega

theorem both_ConsistencyRoots (a n : Int) (x : ByteArray) (l : List ByteArray) (hl : l.length ≤ 1048576) :
    ∃ (r : ByteArray × ByteArray) (e : Int), Ev (fun k => spec_ConsistencyRoots.f k a n x l) (r.1, r.2, e) ∧ Ev (fun k => impl_ConsistencyRoots.f k a n x l) (r.1, r.2, e) := by
  unfold spec_ConsistencyRoots.f impl_ConsistencyRoots.f
  by_cases h1 : (x.size : Int) > 65536
  · refine ⟨(⟨#[]⟩, ⟨#[]⟩), 2, ev_if_pos h1 (ev_some _), ?_⟩
    refine ev_succ ?_
    simp only [proof_code]
    rw [if_neg (by omega)]
    simp only [Option.bind_some]
    exact ev_if_neg (by omega) (ev_some _)
  · by_cases h2 : (l.length : Int) > 4096
    · refine ⟨(⟨#[]⟩, ⟨#[]⟩), 2, ev_if_neg h1 (ev_if_pos h2 (ev_some _)), ?_⟩
      refine ev_succ ?_
      simp only [proof_code]
      rw [if_neg (by omega)]
      simp only [Option.bind_some]
      exact ev_if_neg (by omega) (ev_some _)
    · have hs := hashes_ev l (by omega)
      by_cases hc : (x.size : Int) = 32 ∧ (l.length : Int) ≤ 64 ∧ allH l = true
      · obtain ⟨c1, c2, c3⟩ := hc
        have hb : (decide (l.length ≤ 64) && allH l) = true := by rw [c3, decide_eq_true (by omega)]; rfl
        have hsz : ∀ y ∈ l, y.size ≤ 100000000 := fun y hy => by have := allH_mem l c3 y hy; omega
        rw [hb] at hs
        have impl_ok : ∀ (r : ByteArray × ByteArray × Int), (impl_growthRoots.f a n x l).bind (fun bt => some (bt.1, bt.2.1, bt.2.2)) = some r → Ev (fun k => (impl_proofCode.f k l [x]).bind fun t142 => (if t142 = 0 then ((impl_growthRoots.f a n x l).bind fun bt143 => (some (bt143.1, bt143.2.1, bt143.2.2))) else (some ((⟨#[]⟩ : ByteArray), (⟨#[]⟩ : ByteArray), t142)))) r := by
          intro r hr
          refine ev_succ ?_
          simp only [proof_code]
          rw [if_pos (by omega), if_pos ⟨c1, c2, c3⟩]
          show Ev (fun k => _) _
          simp only [Option.bind_some]
          refine ev_if_pos (by first | rfl | trivial) ?_
          rw [hr]
          exact ev_some _
        have hf : impl_growthRoots.f a n x l = some (if 1 ≤ n ∧ n ≤ 64 ∧ 1 ≤ a ∧ a ≤ n then impl_growthRoots.groot (Go.Proofs.Ytpoaapedcmfcfaa.Mk.growP a.toNat n.toNat true x l false) else (⟨#[]⟩, ⟨#[]⟩, 4)) := by
          unfold impl_growthRoots.f
          rw [if_pos ⟨by omega, by rw [List.all_eq_true]; intro y hy; exact decide_eq_true (hsz y hy)⟩]
        by_cases hin : 1 ≤ n ∧ n ≤ 64 ∧ 1 ≤ a ∧ a ≤ n
        · obtain ⟨g1, g2, g3, g4⟩ := hin
          obtain ⟨i, rfl⟩ := Int.eq_ofNat_of_zero_le (show 0 ≤ a by omega)
          obtain ⟨m, rfl⟩ := Int.eq_ofNat_of_zero_le (show 0 ≤ n by omega)
          have hup := spec_both_ev x (by omega) m i m true l.reverse (Nat.le_refl _) (by omega) (by omega) (by omega) (by simp; omega) (fun y hy => hsz y (by simpa using hy))
          rw [List.reverse_reverse] at hup
          have hs2 := grow_all x i m l (by omega) (by omega)
          rw [if_pos ⟨g1, g2, g3, g4⟩, Int.toNat_natCast, Int.toNat_natCast, hs2] at hf
          have hok := upG_ok x m i m true l.reverse (Nat.le_refl _) (by omega) (by omega)
          rw [List.length_reverse] at hok
          by_cases hd : l.length = depG m i m true
          · rw [decide_eq_true hd] at hok
            rw [if_pos hd] at hf
            refine ⟨((upG x m i m true l.reverse).1, (upG x m i m true l.reverse).2.1), 0, ?_, impl_ok _ (by rw [hf]; rfl)⟩
            refine ev_if_neg h1 (ev_if_neg h2 (ev_bind hs (ev_if_pos (by first | rfl | trivial) (ev_succ ?_))))
            simp only [spec_ConsistencyRoots.j0, in_is, Option.bind_some]
            refine ev_if_neg (by simp; omega) (ev_if_pos (decide_eq_true ⟨g1, g2⟩) (ev_succ ?_))
            simp only [spec_ConsistencyRoots.j1]
            exact ev_if_neg (by simp; omega) (ev_bind hup (ev_if_pos hok (ev_some _)))
          · rw [decide_eq_false hd] at hok
            rw [if_neg hd] at hf
            refine ⟨(⟨#[]⟩, ⟨#[]⟩), 10, ?_, impl_ok _ (by rw [hf]; rfl)⟩
            refine ev_if_neg h1 (ev_if_neg h2 (ev_bind hs (ev_if_pos (by first | rfl | trivial) (ev_succ ?_))))
            simp only [spec_ConsistencyRoots.j0, in_is, Option.bind_some]
            refine ev_if_neg (by simp; omega) (ev_if_pos (decide_eq_true ⟨g1, g2⟩) (ev_succ ?_))
            simp only [spec_ConsistencyRoots.j1]
            exact ev_if_neg (by simp; omega) (ev_bind hup (ev_if_neg (by rw [hok]; simp) (ev_some _)))
        · rw [if_neg hin] at hf
          refine ⟨(⟨#[]⟩, ⟨#[]⟩), 4, ?_, impl_ok _ (by rw [hf]; rfl)⟩
          refine ev_if_neg h1 (ev_if_neg h2 (ev_bind hs (ev_if_pos (by first | rfl | trivial) (ev_succ ?_))))
          simp only [spec_ConsistencyRoots.j0, in_is, Option.bind_some]
          by_cases g : 1 ≤ n ∧ n ≤ 64
          · refine ev_if_neg (by simp; omega) (ev_if_pos (decide_eq_true g) (ev_succ ?_))
            simp only [spec_ConsistencyRoots.j1]
            exact ev_if_pos (by rw [decide_eq_false (fun h => hin ⟨g.1, g.2, h.1, h.2⟩)]; rfl) (ev_some _)
          · refine ev_if_neg (by simp; omega) (ev_if_neg (by simp only [decide_eq_true_eq]; exact g) (ev_succ ?_))
            simp only [spec_ConsistencyRoots.j1]
            exact ev_if_pos (by first | rfl | trivial) (ev_some _)
      · refine ⟨(⟨#[]⟩, ⟨#[]⟩), 1, ?_, ?_⟩
        · refine ev_if_neg h1 (ev_if_neg h2 (ev_bind hs ?_))
          cases hb : (decide (l.length ≤ 64) && allH l)
          · refine ev_if_neg (by simp) (ev_succ ?_)
            simp only [spec_ConsistencyRoots.j0]
            exact ev_if_pos (by first | rfl | trivial) (ev_some _)
          · rw [Bool.and_eq_true, decide_eq_true_eq] at hb
            refine ev_if_pos (by first | rfl | trivial) (ev_succ ?_)
            simp only [spec_ConsistencyRoots.j0]
            exact ev_if_pos (bne_iff_ne.mpr (fun h => hc ⟨h, by omega, hb.2⟩)) (ev_some _)
        · refine ev_succ ?_
          simp only [proof_code]
          rw [if_pos (by omega), if_neg hc]
          simp only [Option.bind_some]
          exact ev_if_neg (by omega) (ev_some _)
theorem FnExactConsistencyRoots : laws_FnExactConsistencyRoots.Pure := by
  intro a n x l hwf1 hwf2 hx hg
  refine Ev.rounds (r := true) ?_
  unfold laws_FnExactConsistencyRoots.f
  by_cases h : (x.size : Int) > 1048576
  · exact ev_if_pos h (ev_some _)
  · obtain ⟨s, hs, hr⟩ := szStringS_ev l hg.1 hg.2 1048576 (by omega) (by omega)
    refine ev_if_neg h (ev_bind hs ?_)
    rcases hr with rfl | ⟨h0, h1, hl, hx⟩
    · exact ev_if_pos (by omega) (ev_some _)
    · have hl' : l.length ≤ 1048576 := by omega
      have ht := toStringS_ev l hl'
      have he := eqStringS_ev l (by omega)
      obtain ⟨r, e, hs, hi⟩ := both_ConsistencyRoots a n x l hl'
      refine ev_if_neg (by omega) (ev_bind ht (ev_bind hs (ev_bind ht (ev_bind hi (ev_if_pos (by first | rfl | trivial) (ev_if_pos (by first | rfl | trivial) (ev_succ ?_)))))))
      simp only [laws_FnExactConsistencyRoots.j0]
      exact ev_if_neg (by simp) (ev_bind ht (ev_bind he (ev_if_pos (by first | rfl | trivial) (ev_some _))))
end Go.Proofs.Ytpoaapedcmfcfaa.Pure
