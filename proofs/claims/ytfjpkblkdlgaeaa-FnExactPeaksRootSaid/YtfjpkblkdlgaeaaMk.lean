/- Merkle logs, plainly: what two hashes come to, where a log is parted, and what a proof's hashes lead to. No conditions. -/
import Derived.Test.YtfjpkblkdlgaeaaSHash2
set_option linter.unusedVariables false
namespace Go.Proofs.Ytfjpkblkdlgaeaa.Mk
open Go.RowKit Go.Proofs.YtfjpkblkdlgaeaaW.PrintWords
/-- What two hashes come to. -/
def nodeOf (a b : ByteArray) : ByteArray := Go.Proofs.Ytfjpkblkdlgaeaa.Hash.sha ((⟨#[1]⟩ : ByteArray) ++ a ++ b)
theorem nodeOf_size (a b : ByteArray) : (nodeOf a b).size = 32 := Go.Proofs.Ytfjpkblkdlgaeaa.SHash.sha_size _
/-- The greatest power of two below a number above one. -/
def halfGo : Nat → Nat → Nat → Nat
  | 0, _, x => x
  | f + 1, n, x => if 2 * x < n then halfGo f n (2 * x) else x
def halfN (n : Nat) : Nat := halfGo n n 1
theorem halfGo_lt (f : Nat) : ∀ (n x : Nat), 1 ≤ x → x < n → 1 ≤ halfGo f n x ∧ halfGo f n x < n := by
  induction f with
  | zero => intro n x h1 h2; exact ⟨h1, h2⟩
  | succ f ih =>
    intro n x h1 h2
    unfold halfGo
    split
    · exact ih n (2 * x) (by omega) (by omega)
    · exact ⟨h1, h2⟩
theorem halfN_lt (n : Nat) (h : 2 ≤ n) : 1 ≤ halfN n ∧ halfN n < n := halfGo_lt n n 1 (by omega) (by omega)
/-- The next hash of a proof. -/
def nextP : List ByteArray → Bool → ByteArray × List ByteArray × Bool
  | [], _ => (⟨#[]⟩, [], true)
  | x :: t, b => (x, t, b)
/-- What a leaf and a proof's hashes lead to: the hash, the hashes that are left, whether one lacked, and what was hashed. -/
def inclP (leaf : ByteArray) (at_ size : Nat) (xs : List ByteArray) (b : Bool) (st : List ByteArray) : ByteArray × List ByteArray × Bool × List ByteArray :=
  if _h : size ≤ 1 then (leaf, xs, b, st)
  else if at_ < halfN size then
    let r := inclP leaf at_ (halfN size) xs b st
    let n := nextP r.2.1 r.2.2.1
    (nodeOf r.1 n.1, n.2.1, n.2.2, r.2.2.2 ++ [(⟨#[1]⟩ : ByteArray) ++ r.1 ++ n.1])
  else
    let r := inclP leaf (at_ - halfN size) (size - halfN size) xs b st
    let n := nextP r.2.1 r.2.2.1
    (nodeOf n.1 r.1, n.2.1, n.2.2, r.2.2.2 ++ [(⟨#[1]⟩ : ByteArray) ++ n.1 ++ r.1])
  termination_by size
  decreasing_by
    · have := halfN_lt size (by omega)
      omega
    · have := halfN_lt size (by omega)
      omega
theorem inclP_one (leaf : ByteArray) (i n : Nat) (xs : List ByteArray) (b : Bool) (st : List ByteArray) (h : n ≤ 1) : inclP leaf i n xs b st = (leaf, xs, b, st) := by rw [inclP, dif_pos h]
theorem inclP_low (leaf : ByteArray) (i n : Nat) (xs : List ByteArray) (b : Bool) (st : List ByteArray) (h : 2 ≤ n) (hi : i < halfN n) : inclP leaf i n xs b st =
    (nodeOf (inclP leaf i (halfN n) xs b st).1 (nextP (inclP leaf i (halfN n) xs b st).2.1 (inclP leaf i (halfN n) xs b st).2.2.1).1, (nextP (inclP leaf i (halfN n) xs b st).2.1 (inclP leaf i (halfN n) xs b st).2.2.1).2.1, (nextP (inclP leaf i (halfN n) xs b st).2.1 (inclP leaf i (halfN n) xs b st).2.2.1).2.2,
      (inclP leaf i (halfN n) xs b st).2.2.2 ++ [(⟨#[1]⟩ : ByteArray) ++ (inclP leaf i (halfN n) xs b st).1 ++ (nextP (inclP leaf i (halfN n) xs b st).2.1 (inclP leaf i (halfN n) xs b st).2.2.1).1]) := by rw [inclP, dif_neg (by omega), if_pos hi]
theorem inclP_high (leaf : ByteArray) (i n : Nat) (xs : List ByteArray) (b : Bool) (st : List ByteArray) (h : 2 ≤ n) (hi : ¬ i < halfN n) : inclP leaf i n xs b st =
    (nodeOf (nextP (inclP leaf (i - halfN n) (n - halfN n) xs b st).2.1 (inclP leaf (i - halfN n) (n - halfN n) xs b st).2.2.1).1 (inclP leaf (i - halfN n) (n - halfN n) xs b st).1, (nextP (inclP leaf (i - halfN n) (n - halfN n) xs b st).2.1 (inclP leaf (i - halfN n) (n - halfN n) xs b st).2.2.1).2.1, (nextP (inclP leaf (i - halfN n) (n - halfN n) xs b st).2.1 (inclP leaf (i - halfN n) (n - halfN n) xs b st).2.2.1).2.2,
      (inclP leaf (i - halfN n) (n - halfN n) xs b st).2.2.2 ++ [(⟨#[1]⟩ : ByteArray) ++ (nextP (inclP leaf (i - halfN n) (n - halfN n) xs b st).2.1 (inclP leaf (i - halfN n) (n - halfN n) xs b st).2.2.1).1 ++ (inclP leaf (i - halfN n) (n - halfN n) xs b st).1]) := by rw [inclP, dif_neg (by omega), if_neg hi]
/-- All are of a bearable size. -/
def BS (xs : List ByteArray) : Prop := ∀ x ∈ xs, x.size ≤ 100000000
theorem nextP_bs (xs : List ByteArray) (b : Bool) (h : BS xs) : (nextP xs b).1.size ≤ 100000000 ∧ BS (nextP xs b).2.1 ∧ (nextP xs b).2.1.length ≤ xs.length := by
  cases xs with
  | nil => exact ⟨Nat.zero_le _, h, Nat.le_refl _⟩
  | cons x t => exact ⟨h x List.mem_cons_self, fun y hy => h y (List.mem_cons_of_mem _ hy), Nat.le_succ _⟩
theorem inclP_bs (leaf : ByteArray) (hl : leaf.size ≤ 100000000) (m : Nat) : ∀ (i n : Nat) (xs : List ByteArray) (b : Bool) (st : List ByteArray), n ≤ m → BS xs → (inclP leaf i n xs b st).1.size ≤ 100000000 ∧ BS (inclP leaf i n xs b st).2.1 ∧ (inclP leaf i n xs b st).2.1.length ≤ xs.length ∧ (inclP leaf i n xs b st).2.2.2.length ≤ st.length + n := by
  induction m with
  | zero => intro i n xs b st h hx; rw [inclP_one _ _ _ _ _ _ (by omega)]; exact ⟨hl, hx, Nat.le_refl _, Nat.le_add_right _ _⟩
  | succ m ih =>
    intro i n xs b st h hx
    by_cases h1 : n ≤ 1
    · rw [inclP_one _ _ _ _ _ _ h1]; exact ⟨hl, hx, Nat.le_refl _, Nat.le_add_right _ _⟩
    · have hh := halfN_lt n (by omega)
      by_cases hi : i < halfN n
      · rw [inclP_low _ _ _ _ _ _ (by omega) hi]
        obtain ⟨a1, a2, a3, a4⟩ := ih i (halfN n) xs b st (by omega) hx
        obtain ⟨b1, b2, b3⟩ := nextP_bs _ (inclP leaf i (halfN n) xs b st).2.2.1 a2
        refine ⟨by rw [nodeOf_size]; omega, b2, Nat.le_trans b3 a3, ?_⟩
        rw [List.length_append]
        simp only [List.length_cons, List.length_nil]
        omega
      · rw [inclP_high _ _ _ _ _ _ (by omega) hi]
        obtain ⟨a1, a2, a3, a4⟩ := ih (i - halfN n) (n - halfN n) xs b st (by omega) hx
        obtain ⟨b1, b2, b3⟩ := nextP_bs _ (inclP leaf (i - halfN n) (n - halfN n) xs b st).2.2.1 a2
        refine ⟨by rw [nodeOf_size]; omega, b2, Nat.le_trans b3 a3, ?_⟩
        rw [List.length_append]
        simp only [List.length_cons, List.length_nil]
        omega
/-- The hashes of the first so many leaves and of all that a proof leads to; the hashes that are left; whether one lacked. -/
def growP (m n : Nat) (known : Bool) (root : ByteArray) (xs : List ByteArray) (b : Bool) : ByteArray × ByteArray × List ByteArray × Bool :=
  if m = n ∨ n ≤ 1 then (if known then (root, root, xs, b) else ((nextP xs b).1, (nextP xs b).1, (nextP xs b).2.1, (nextP xs b).2.2))
  else if _h : 2 ≤ n then
    if m ≤ halfN n then
      let r := growP m (halfN n) known root xs b
      let t := nextP r.2.2.1 r.2.2.2
      (r.1, nodeOf r.2.1 t.1, t.2.1, t.2.2)
    else
      let r := growP (m - halfN n) (n - halfN n) false root xs b
      let t := nextP r.2.2.1 r.2.2.2
      (nodeOf t.1 r.1, nodeOf t.1 r.2.1, t.2.1, t.2.2)
  else (root, root, xs, b)
  termination_by n
  decreasing_by
    · have := halfN_lt n _h
      omega
    · have := halfN_lt n _h
      omega
theorem growP_known (n : Nat) (root : ByteArray) (xs : List ByteArray) (b : Bool) : growP n n true root xs b = (root, root, xs, b) := by rw [growP, if_pos (.inl rfl)]; rfl
theorem growP_next (n : Nat) (root : ByteArray) (xs : List ByteArray) (b : Bool) : growP n n false root xs b = ((nextP xs b).1, (nextP xs b).1, (nextP xs b).2.1, (nextP xs b).2.2) := by rw [growP, if_pos (.inl rfl)]; rfl
theorem growP_low (m n : Nat) (known : Bool) (root : ByteArray) (xs : List ByteArray) (b : Bool) (h : m ≠ n) (h2 : 2 ≤ n) (hm : m ≤ halfN n) : growP m n known root xs b =
    ((growP m (halfN n) known root xs b).1, nodeOf (growP m (halfN n) known root xs b).2.1 (nextP (growP m (halfN n) known root xs b).2.2.1 (growP m (halfN n) known root xs b).2.2.2).1, (nextP (growP m (halfN n) known root xs b).2.2.1 (growP m (halfN n) known root xs b).2.2.2).2.1, (nextP (growP m (halfN n) known root xs b).2.2.1 (growP m (halfN n) known root xs b).2.2.2).2.2) := by rw [growP, if_neg (by omega), dif_pos h2, if_pos hm]
theorem growP_high (m n : Nat) (known : Bool) (root : ByteArray) (xs : List ByteArray) (b : Bool) (h : m ≠ n) (h2 : 2 ≤ n) (hm : ¬ m ≤ halfN n) : growP m n known root xs b =
    (nodeOf (nextP (growP (m - halfN n) (n - halfN n) false root xs b).2.2.1 (growP (m - halfN n) (n - halfN n) false root xs b).2.2.2).1 (growP (m - halfN n) (n - halfN n) false root xs b).1, nodeOf (nextP (growP (m - halfN n) (n - halfN n) false root xs b).2.2.1 (growP (m - halfN n) (n - halfN n) false root xs b).2.2.2).1 (growP (m - halfN n) (n - halfN n) false root xs b).2.1, (nextP (growP (m - halfN n) (n - halfN n) false root xs b).2.2.1 (growP (m - halfN n) (n - halfN n) false root xs b).2.2.2).2.1, (nextP (growP (m - halfN n) (n - halfN n) false root xs b).2.2.1 (growP (m - halfN n) (n - halfN n) false root xs b).2.2.2).2.2) := by rw [growP, if_neg (by omega), dif_pos h2, if_neg hm]
theorem growP_bs (root : ByteArray) (hl : root.size ≤ 100000000) (q : Nat) : ∀ (m n : Nat) (known : Bool) (xs : List ByteArray) (b : Bool), n ≤ q → 1 ≤ m → m ≤ n → BS xs → (growP m n known root xs b).1.size ≤ 100000000 ∧ (growP m n known root xs b).2.1.size ≤ 100000000 ∧ BS (growP m n known root xs b).2.2.1 ∧ (growP m n known root xs b).2.2.1.length ≤ xs.length := by
  induction q with
  | zero => intro m n known xs b h h1 h2; omega
  | succ q ih =>
    intro m n known xs b h h1 h2 hx
    by_cases he : m = n
    · subst he
      obtain ⟨b1, b2, b3⟩ := nextP_bs xs b hx
      cases known with
      | true => rw [growP_known]; exact ⟨hl, hl, hx, Nat.le_refl _⟩
      | false => rw [growP_next]; exact ⟨b1, b1, b2, b3⟩
    · have hh := halfN_lt n (by omega)
      by_cases hm : m ≤ halfN n
      · rw [growP_low _ _ _ _ _ _ he (by omega) hm]
        obtain ⟨a1, a2, a3, a4⟩ := ih m (halfN n) known xs b (by omega) h1 hm hx
        obtain ⟨b1, b2, b3⟩ := nextP_bs _ (growP m (halfN n) known root xs b).2.2.2 a3
        exact ⟨a1, by rw [nodeOf_size]; omega, b2, Nat.le_trans b3 a4⟩
      · rw [growP_high _ _ _ _ _ _ he (by omega) hm]
        obtain ⟨a1, a2, a3, a4⟩ := ih (m - halfN n) (n - halfN n) false xs b (by omega) (by omega) (by omega) hx
        obtain ⟨b1, b2, b3⟩ := nextP_bs _ (growP (m - halfN n) (n - halfN n) false root xs b).2.2.2 a3
        exact ⟨by rw [nodeOf_size]; omega, by rw [nodeOf_size]; omega, b2, Nat.le_trans b3 a4⟩
end Go.Proofs.Ytfjpkblkdlgaeaa.Mk
