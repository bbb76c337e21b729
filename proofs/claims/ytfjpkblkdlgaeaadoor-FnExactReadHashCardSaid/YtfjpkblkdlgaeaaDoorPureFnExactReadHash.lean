/- The program's ReadHash answers as the reference's at all strings: the plain form. No conditions. -/
import Derived.Test.YtfjpkblkdlgaeaaDoorPFnExactReadHashx2
import Derived.Test.YtfjpkblkdlgaeaaDoorU
namespace Go.Proofs.YtfjpkblkdlgaeaaDoor.Pure
open Go.RowKit Go.Proofs.YtfjpkblkdlgaeaaDoor.PFnExactReadHash Go.Proofs.YtfjpkblkdlgaeaaDoorW.PrintWords Go.Proofs.YtfjpkblkdlgaeaaDoorW.PrintLast Go.Proofs.YtfjpkblkdlgaeaaDoorW.PrintMore Go.Proofs.YtfjpkblkdlgaeaaDoor.U
set_option linter.unusedVariables false
set_option linter.unusedSimpArgs false
/-- The worth of a digit of base 16, or -1. -/
def nib (c : Int) : Int := if 48 ≤ c ∧ c ≤ 57 then c - 48 else if 97 ≤ c ∧ c ≤ 102 then c - 87 else -1
def hexL : List UInt8 := [48, 49, 50, 51, 52, 53, 54, 55, 56, 57, 97, 98, 99, 100, 101, 102]
theorem nib_range (c : Int) : -1 ≤ nib c ∧ nib c < 16 := by unfold nib; split <;> (try split) <;> omega
theorem nibble_ev (c : Int) (h0 : 0 ≤ c) (h1 : c < 256) : Ev (fun k => spec_l01Nibble.f k c) (nib c) := by
  have w1 : wrap64 c = c := wrap_in (by omega) (by omega)
  have w2 : wrap64 (c - 48) = c - 48 := wrap_in (by omega) (by omega)
  have w3 : wrap64 (c - 97) = c - 97 := wrap_in (by omega) (by omega)
  have w4 : wrap64 (c - 97 + 10) = c - 87 := (wrap_in (by omega) (by omega)).trans (by omega)
  have key : ∀ b : Bool, (b = true ↔ (48 ≤ c ∧ c ≤ 57)) → Ev (fun k => spec_l01Nibble.j0 k c b) (nib c) := fun b hb => by
    refine ev_succ ?_
    simp only [spec_l01Nibble.j0, w1, w2, w3, w4]
    unfold nib
    clear w1 w2 w3 w4
    by_cases g : 48 ≤ c ∧ c ≤ 57
    · rw [if_pos g]
      exact ev_if_pos (hb.2 g) (ev_some _)
    · rw [if_neg g]
      refine ev_if_neg (fun h => g (hb.1 h)) ?_
      by_cases g2 : 97 ≤ c ∧ c ≤ 102
      · rw [if_pos g2]
        exact ev_if_pos g2.1 (ev_if_pos g2.2 (ev_some _))
      · rw [if_neg g2]
        by_cases g3 : 97 ≤ c
        · exact ev_if_pos g3 (ev_if_neg (by omega) (ev_some _))
        · exact ev_if_neg g3 (ev_some _)
  clear w1 w2 w3 w4
  unfold spec_l01Nibble.f
  by_cases g : 48 ≤ c
  · exact ev_if_pos g (key _ (by rw [decide_eq_true_iff]; omega))
  · exact ev_if_neg g (key _ ⟨fun h => absurd h (by simp), fun h => absurd h.1 g⟩)
theorem index_all : ∀ n : Fin 256, Lib.indexByte hexL (n.val.toUInt8) = nib (n.val : Int) := by decide +kernel
theorem contains_all : ∀ n : Fin 256, hexL.contains (n.val.toUInt8) = decide (0 ≤ nib (n.val : Int)) := by decide +kernel
theorem index_nib (c : Int) (h0 : 0 ≤ c) (h1 : c < 256) : strings_IndexByte.f (⟨#[48, 49, 50, 51, 52, 53, 54, 55, 56, 57, 97, 98, 99, 100, 101, 102]⟩ : ByteArray) c = some (nib c) := by
  obtain ⟨n, rfl⟩ := Int.eq_ofNat_of_zero_le h0
  have h := index_all ⟨n, by omega⟩
  unfold strings_IndexByte.f
  rw [Int.toNat_natCast]
  exact congrArg some h
theorem contains_nib (b : UInt8) : hexL.contains b = decide (0 ≤ nib (b.toNat : Int)) := by
  have h := contains_all ⟨b.toNat, b.toNat_lt⟩
  have hb : b.toNat.toUInt8 = b := by show UInt8.ofNat b.toNat = b; simp
  rw [hb] at h
  exact h
theorem mem_tw (p : UInt8 → Bool) (l : List UInt8) : ∀ x ∈ l.takeWhile p, p x = true := by
  induction l with
  | nil => intro x hx; simp at hx
  | cons a l ih =>
    intro x hx
    rw [List.takeWhile_cons] at hx
    split at hx
    · rcases List.mem_cons.1 hx with rfl | h
      · assumption
      · exact ih x h
    · simp at hx
theorem dw_nil (p : UInt8 → Bool) (l : List UInt8) : l.dropWhile p = [] ↔ ∀ x ∈ l, p x = true := by
  induction l with
  | nil => exact ⟨fun _ x hx => by simp at hx, fun _ => rfl⟩
  | cons a l ih =>
    rw [List.dropWhile_cons]
    by_cases h : p a = true
    · rw [if_pos h, ih]
      exact ⟨fun g x hx => by
        rcases List.mem_cons.1 hx with rfl | h2
        · exact h
        · exact g x h2, fun g x hx => g x (List.mem_cons_of_mem _ hx)⟩
    · rw [if_neg h]
      exact ⟨fun g => by simp at g, fun g => absurd (g a List.mem_cons_self) h⟩
theorem trim_nil (l cs : List UInt8) : Lib.trimS l cs = [] ↔ ∀ b ∈ l, cs.contains b = true := by
  unfold Lib.trimS Lib.trimLeftS Lib.trimRightS
  rw [dw_nil]
  constructor
  · intro h b hb
    have h1 : b ∈ l.reverse := List.mem_reverse.2 hb
    rw [← List.takeWhile_append_dropWhile (p := fun x => cs.contains x) (l := l.reverse)] at h1
    rcases List.mem_append.1 h1 with h2 | h2
    · exact mem_tw _ _ b h2
    · exact h b (List.mem_reverse.2 h2)
  · intro h b hb
    have h1 := List.mem_reverse.1 hb
    have h2 : b ∈ l.reverse := (List.dropWhile_sublist _).mem h1
    exact h b (List.mem_reverse.1 h2)
/-- So many pairs of digits from a place on. -/
def pairs (s : ByteArray) : Nat → Nat → List Int
  | 0, _ => []
  | d + 1, i => ((16 * nib (bt s (i : Int)) + nib (bt s ((i + 1 : Nat) : Int))) % 256) :: pairs s d (i + 2)
def digits (s : ByteArray) : Nat → Nat → Prop
  | 0, _ => True
  | d + 1, i => 0 ≤ nib (bt s (i : Int)) ∧ 0 ≤ nib (bt s ((i + 1 : Nat) : Int)) ∧ digits s d (i + 2)
theorem digits_iff (s : ByteArray) (d : Nat) : ∀ i : Nat, digits s d i ↔ ∀ j, i ≤ j → j < i + 2 * d → 0 ≤ nib (bt s (j : Int)) := by
  induction d with
  | zero => intro i; exact ⟨fun _ j h1 h2 => absurd h2 (by omega), fun _ => trivial⟩
  | succ d ih =>
    intro i
    unfold digits
    rw [ih (i + 2)]
    constructor
    · rintro ⟨h1, h2, h3⟩ j g1 g2
      by_cases e1 : j = i
      · subst e1; exact h1
      · by_cases e2 : j = i + 1
        · subst e2; exact h2
        · exact h3 j (by omega) (by omega)
    · intro h
      exact ⟨h i (by omega) (by omega), h (i + 1) (by omega) (by omega), fun j g1 g2 => h j (by omega) (by omega)⟩
theorem step_wraps (i : Nat) (hi : i ≤ 64) (a b : Int) (ha : -1 ≤ a ∧ a < 16) (hb : -1 ≤ b ∧ b < 16) :
    wrap64 ((i : Int) + 1) = ((i + 1 : Nat) : Int) ∧ wrap64 ((i : Int) + 2) = ((i + 2 : Nat) : Int) ∧ wrap64 (wrap64 (16 * a) + b) = 16 * a + b ∧ wrap64 (wrap64 (a * 16) + b) = 16 * a + b :=
  ⟨(wrap_in (by omega) (by omega)).trans (by omega), (wrap_in (by omega) (by omega)).trans (by omega), by rw [wrap_in (x := 16 * a) (by omega) (by omega), wrap_in (by omega) (by omega)],
    by rw [wrap_in (x := a * 16) (by omega) (by omega), wrap_in (by omega) (by omega)]; omega⟩
theorem spec_digits (s : ByteArray) (hs : s.size = 64) (d : Nat) : ∀ (i : Nat) (acc : List Int), i + 2 * d = 64 → acc.length ≤ i →
    ∃ r : ByteArray × Int, Ev (fun k => spec_ReadHash.l0 k s acc (i : Int)) r ∧ (digits s d i → r = (strOfNums (acc ++ pairs s d i), 0)) ∧ (¬ digits s d i → r = ((⟨#[]⟩ : ByteArray), 3)) := by
  induction d with
  | zero =>
    intro i acc hi ha
    refine ⟨(strOfNums acc, 0), ev_succ ?_, fun _ => by rw [pairs, List.append_nil], fun h => absurd trivial h⟩
    simp only [spec_ReadHash.l0]
    exact ev_if_neg (by omega) (ev_some _)
  | succ d ih =>
    intro i acc hi ha
    have b0 := bt_range s (i : Int)
    have b1 := bt_range s ((i + 1 : Nat) : Int)
    have n0 := nibble_ev _ b0.1 (by omega)
    have n1 := nibble_ev _ b1.1 (by omega)
    have hW := Aside0.mk (step_wraps i (by omega) _ _ (nib_range (bt s (i : Int))) (nib_range (bt s ((i + 1 : Nat) : Int))))
    have enter : ∀ {r : ByteArray × Int}, Ev (fun k => if nib (bt s (i : Int)) < 0 then some ((⟨#[]⟩ : ByteArray), (3 : Int)) else if nib (bt s ((i + 1 : Nat) : Int)) < 0 then some ((⟨#[]⟩ : ByteArray), 3) else if acc.length < 140737488355328 then spec_ReadHash.l0 k s (acc ++ [(16 * nib (bt s (i : Int)) + nib (bt s ((i + 1 : Nat) : Int))) % 256]) ((i + 2 : Nat) : Int) else none) r → Ev (fun k => spec_ReadHash.l0 k s acc (i : Int)) r := fun h => by
      refine ev_succ ?_
      simp only [spec_ReadHash.l0, hW.out.1, hW.out.2.1]
      refine ev_if_pos (by omega) (ev_if_pos (by omega) (ev_bind n0 (ev_if_pos (by omega) (ev_if_pos (by omega) (ev_bind n1 ?_)))))
      simp only [hW.out.2.2.1]
      exact h
    by_cases c0 : nib (bt s (i : Int)) < 0
    · exact ⟨_, enter (ev_if_pos c0 (ev_some _)), fun h => absurd h.1 (by omega), fun _ => rfl⟩
    · by_cases c1 : nib (bt s ((i + 1 : Nat) : Int)) < 0
      · exact ⟨_, enter (ev_if_neg c0 (ev_if_pos c1 (ev_some _))), fun h => absurd h.2.1 (by omega), fun _ => rfl⟩
      · obtain ⟨r, e, h1, h2⟩ := ih (i + 2) (acc ++ [(16 * nib (bt s (i : Int)) + nib (bt s ((i + 1 : Nat) : Int))) % 256]) (by omega) (by rw [List.length_append, List.length_singleton]; omega)
        refine ⟨r, enter (ev_if_neg c0 (ev_if_neg c1 (ev_if_pos (by omega) e))), fun h => ?_, fun h => h2 fun g => h ⟨by omega, by omega, g⟩⟩
        rw [h1 h.2.2, pairs, List.append_assoc]
        rfl
theorem impl_digits (s : ByteArray) (hs : s.size = 64) (d : Nat) : ∀ (i : Nat) (acc : List Int), i + 2 * d = 64 → acc.length ≤ i → Ev (fun k => impl_readHash.l0 k s acc (i : Int)) (strOfNums (acc ++ pairs s d i), true) := by
  induction d with
  | zero =>
    intro i acc hi ha
    refine ev_succ ?_
    rw [pairs, List.append_nil]
    simp only [impl_readHash.l0]
    exact ev_if_neg (by omega) (ev_some _)
  | succ d ih =>
    intro i acc hi ha
    have b0 := bt_range s (i : Int)
    have b1 := bt_range s ((i + 1 : Nat) : Int)
    have n0 := index_nib _ b0.1 (by omega)
    have n1 := index_nib _ b1.1 (by omega)
    have hW := Aside0.mk (step_wraps i (by omega) _ _ (nib_range (bt s (i : Int))) (nib_range (bt s ((i + 1 : Nat) : Int))))
    have e := ih (i + 2) (acc ++ [(16 * nib (bt s (i : Int)) + nib (bt s ((i + 1 : Nat) : Int))) % 256]) (by omega) (by rw [List.length_append, List.length_singleton]; omega)
    have he : acc ++ pairs s (d + 1) i = acc ++ [(16 * nib (bt s (i : Int)) + nib (bt s ((i + 1 : Nat) : Int))) % 256] ++ pairs s d (i + 2) := by rw [pairs, List.append_assoc]; rfl
    rw [← he] at e
    refine ev_succ ?_
    simp only [impl_readHash.l0, hW.out.1, hW.out.2.1, n0, n1, Option.bind_some, hW.out.2.2.2]
    exact ev_if_pos (by omega) (ev_if_pos (by omega) (ev_if_pos (by omega) (ev_if_pos (by omega) (ev_if_pos (by omega) e))))
theorem trim_digits (s : ByteArray) (hs : s.size = 64) : Lib.trimS s.data.toList hexL = [] ↔ digits s 32 0 := by
  rw [trim_nil, digits_iff]
  have hl : s.data.toList.length = 64 := by rw [Array.length_toList]; exact hs
  constructor
  · intro h j _ hj
    have hjs : j < s.size := by omega
    have hm : s[j] ∈ s.data.toList := by
      show s.data[j] ∈ s.data.toList
      exact Array.mem_toList_iff.2 (Array.getElem_mem _)
    have h1 := h _ hm
    rw [contains_nib, decide_eq_true_iff] at h1
    have h2 := bt_at s (j : Int) (by rw [Int.toNat_natCast]; exact hjs)
    rw [← h2]
    exact h1
  · intro h b hb
    obtain ⟨j, hj, rfl⟩ := List.mem_iff_getElem.1 hb
    have hjs : j < s.size := by omega
    have h1 := h j (by omega) (by omega)
    rw [← bt_at s (j : Int) (by rw [Int.toNat_natCast]; exact hjs)] at h1
    rw [contains_nib, decide_eq_true_iff]
    exact h1
theorem both_ReadHash (s : ByteArray) (hs : s.size ≤ 1048576) : ∃ r : ByteArray × Int, Ev (fun k => spec_ReadHash.f k s) r ∧ Ev (fun k => impl_ReadHash.f k s) r := by
  have hp : impl_isText.f [s] = some (!decide ((s.size : Int) > 65536)) := by
    unfold impl_isText.f
    show some (!(impl_isText.p s || false)) = _
    rw [Bool.or_false]
    rfl
  by_cases h1 : (s.size : Int) > 65536
  · refine ⟨((⟨#[]⟩ : ByteArray), 2), ?_, ?_⟩
    · unfold spec_ReadHash.f
      exact ev_if_pos h1 (ev_some _)
    · unfold impl_ReadHash.f
      rw [hp, decide_eq_true h1]
      simp only [Option.bind_some]
      exact ev_if_neg (by simp) (ev_some _)
  · have enter : ∀ {r : ByteArray × Bool}, Ev (fun k => impl_readHash.f k s) r → Ev (fun k => impl_ReadHash.f k s) (if r.2 = true then (r.1, 0) else ((⟨#[]⟩ : ByteArray), 3)) := fun {r} h => by
      unfold impl_ReadHash.f
      rw [hp, decide_eq_false h1]
      simp only [Option.bind_some]
      refine ev_if_pos (by simp) (ev_bind h ?_)
      split
      · exact ev_some _
      · exact ev_some _
    have stop : Ev (fun k => impl_readHash.j0 k s true) ((⟨#[]⟩ : ByteArray), false) := by
      refine ev_succ ?_
      simp only [impl_readHash.j0]
      exact ev_if_pos trivial (ev_some _)
    by_cases h2 : (s.size : Int) = 64
    · have h64 : s.size = 64 := by omega
      obtain ⟨r, e, g1, g2⟩ := spec_digits s h64 32 0 [] (by omega) (by simp)
      have htr : strings_Trim.f s (⟨#[48, 49, 50, 51, 52, 53, 54, 55, 56, 57, 97, 98, 99, 100, 101, 102]⟩ : ByteArray) = some ⟨(Lib.trimS s.data.toList hexL).toArray⟩ := by
        unfold strings_Trim.f
        rw [if_pos ⟨by omega, by decide, by decide⟩]
        rfl
      have hsp : Ev (fun k => spec_ReadHash.f k s) r := by
        unfold spec_ReadHash.f
        exact ev_if_neg h1 (ev_if_pos h2 e)
      have htl : ∀ l : List UInt8, (⟨l.toArray⟩ : ByteArray).toList = l := fun l => by rw [ByteArray.toList_eq]
      refine ⟨r, hsp, ?_⟩
      by_cases g : digits s 32 0
      · have ht := (trim_digits s h64).2 g
        have hi := impl_digits s h64 32 0 [] (by omega) (by simp)
        have := enter (r := (strOfNums ([] ++ pairs s 32 0), true)) (by
          unfold impl_readHash.f
          refine ev_if_pos h2 ?_
          rw [htr]
          simp only [Option.bind_some, htl, ht]
          refine ev_succ ?_
          simp only [impl_readHash.j0]
          exact ev_if_neg (by simp) hi)
        rw [if_pos rfl] at this
        rw [g1 g]
        exact this
      · have ht : Lib.trimS s.data.toList hexL ≠ [] := fun h => g ((trim_digits s h64).1 h)
        have := enter (r := ((⟨#[]⟩ : ByteArray), false)) (by
          unfold impl_readHash.f
          refine ev_if_pos h2 ?_
          rw [htr]
          simp only [Option.bind_some, htl]
          rw [bne_iff_ne.2 ht]
          exact stop)
        rw [if_neg (by simp)] at this
        rw [g2 g]
        exact this
    · refine ⟨((⟨#[]⟩ : ByteArray), 3), ?_, ?_⟩
      · unfold spec_ReadHash.f
        exact ev_if_neg h1 (ev_if_neg h2 (ev_some _))
      · have := enter (r := ((⟨#[]⟩ : ByteArray), false)) (by
          unfold impl_readHash.f
          exact ev_if_neg h2 stop)
        rw [if_neg (by simp)] at this
        exact this

theorem FnExactReadHash : laws_FnExactReadHash.Pure := by
  intro s _
  refine Ev.rounds (r := true) ?_
  unfold laws_FnExactReadHash.f
  by_cases h1 : (s.size : Int) > 1048576
  · exact ev_if_pos h1 (ev_some _)
  · obtain ⟨r, hs, hi⟩ := both_ReadHash s (by omega)
    exact ev_if_neg h1 (ev_bind hs (ev_bind hi (ev_if_pos rfl (ev_if_pos rfl (ev_some _)))))
end Go.Proofs.YtfjpkblkdlgaeaaDoor.Pure
