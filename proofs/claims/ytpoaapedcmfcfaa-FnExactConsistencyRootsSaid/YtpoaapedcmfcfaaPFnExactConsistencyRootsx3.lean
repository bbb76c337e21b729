/- Written by a program (a session's own form of the print): plain functions with the answers of the Go functions, and the walks that show it. Lean checks it. -/
import Derived.Test.YtpoaapedcmfcfaaPFnExactConsistencyRootsx0
import Derived.Test.YtpoaapedcmfcfaaPFnExactConsistencyRootsx1
import Derived.Test.YtpoaapedcmfcfaaPFnExactConsistencyRootsx2
namespace Go.Proofs.Ytpoaapedcmfcfaa.PFnExactConsistencyRoots
open Go.RowKit Go.Proofs.YtpoaapedcmfcfaaW.PrintWords Go.Proofs.YtpoaapedcmfcfaaW.PrintLast Go.Proofs.YtpoaapedcmfcfaaW.PrintMore
attribute [local go_sem] max2_int min2_int max_two min_two max_three min_three max_four min_four   -- for this text's walks alone
set_option linter.unusedVariables false
set_option linter.unusedSimpArgs false

/-! ### impl_nodeHash: function 55 -/
def impl_nodeHash.f (a0 : ByteArray) (a1 : ByteArray) : Option (ByteArray) := if 1 + a0.size ≤ 9223372036854775807 then (if 1 + a0.size + a1.size ≤ 9223372036854775807 then ((impl_hash.f (((⟨#[1]⟩ : ByteArray) ++ a0) ++ a1)).bind fun t144 => (some t144)) else (none)) else (none)
set_option maxHeartbeats 8000000 in
set_option maxRecDepth 100000 in
theorem impl_nodeHash.calls (a0 : ByteArray) (a1 : ByteArray) (r : ByteArray) (w : World) (h : impl_nodeHash.f a0 a1 = some r) :
    Calls Try.prog 55 #[.string a0, .string a1] w fun e w' => e = .returned (.string r) ∧ Below w.heap.size w w' := by
  have HB := Aside0.mk (Below.refl w.heap.size w)
  have H : (if 1 + a0.size ≤ 9223372036854775807 then (if 1 + a0.size + a1.size ≤ 9223372036854775807 then ((impl_hash.f (((⟨#[1]⟩ : ByteArray) ++ a0) ++ a1)).bind fun t144 => (some t144)) else (none)) else (none)) = some r := h
  clear h
  by_cases c3 : 1 + a0.size ≤ 9223372036854775807
  · rw [if_pos c3] at H
    have c3b0 := eq_true c3
    have c3b1 : decide (1 + a0.size ≤ 9223372036854775807) = true := decide_eq_true c3
    try have c3b2 : (9223372036854775807 < 1 + a0.size) = False := eq_false (Nat.not_lt.2 c3)
    by_cases c4 : 1 + a0.size + a1.size ≤ 9223372036854775807
    · rw [if_pos c4] at H
      have c4b0 := eq_true c4
      have c4b1 : decide (1 + a0.size + a1.size ≤ 9223372036854775807) = true := decide_eq_true c4
      try have c4b2 : (9223372036854775807 < 1 + a0.size + a1.size) = False := eq_false (Nat.not_lt.2 c4)
      replace H := Option.bind_eq_some_iff.mp H
      obtain ⟨t144, A50, H⟩ := H
      replace H : (some t144) = some r := H
      have A5 := Aside0.mk A50
      clear A50
      obtain rfl := Option.some.inj H
      go_enter Try.func55, Try.ntmps55
      go_wp2_with (first | ((with_reducible refine gate_callee (f := 46) rfl ?_); refine goesL_ (some 9) rfl rfl Try.func46 (by kernel_rfl) rfl #[.string (((⟨#[1]⟩ : ByteArray) ++ a0) ++ a1)] rfl (by (try simp only [List.map_toArray, List.map_cons, List.map_nil]); first | done | rfl | (simp only [List.length_drop, List.length_take]; rfl)) ?_; (with_reducible refine (impl_hash.calls (((⟨#[1]⟩ : ByteArray) ++ a0) ++ a1) t144 _ A5.out).mono ?_); rintro e w6 ⟨rfl, hb⟩; refine ⟨_, rfl, ?_⟩; have n0_ := Aside0.mk (below_step (by repeat (first | (with_reducible first | exact HB.out | apply below_alloc | apply pw_below_drewN | apply below_drew1) | exact HB.out)) hb); clear HB; have HB := n0_; clear n0_; (try clear hb); (try clear hb2); (try clear hk); (try clear hi)))
      go_ret
      exact ⟨by first | rfl | (simp [errW_none, errW_some] <;> rfl) | (simp [*, errW_none, errW_some] <;> rfl), by repeat (first | (with_reducible first | exact HB.out | apply below_alloc | apply pw_below_drewN | apply below_drew1) | exact HB.out)⟩
    · rw [if_neg c4] at H
      exact absurd H (by simp)
  · rw [if_neg c3] at H
    exact absurd H (by simp)

/-! ### impl_within: function 76 -/
def impl_within.f (a0 : Int) (a1 : Int) (a2 : Int) : Option (Bool) := if a0 ≥ a1 then (some (decide (a0 ≤ a2))) else (some false)
set_option maxHeartbeats 8000000 in
set_option maxRecDepth 100000 in
theorem impl_within.calls (a0 : Int) (a1 : Int) (a2 : Int) (r : Bool) (w : World) (h : impl_within.f a0 a1 a2 = some r) :
    Calls Try.prog 76 #[.int .i64 a0, .int .i64 a1, .int .i64 a2] w fun e w' => e = .returned (.bool r) ∧ Drawn0 w w' := by
  have H : (if a0 ≥ a1 then (some (decide (a0 ≤ a2))) else (some false)) = some r := h
  clear h
  by_cases c4 : a0 ≥ a1
  · rw [if_pos c4] at H
    have c4b0 : decide (a1 ≤ a0) = true := decide_eq_true c4
    clear c4
    obtain rfl := Option.some.inj H
    go_enter Try.func76, Try.ntmps76
    go_wp2
    go_ret
    exact ⟨by first | rfl | (simp; done) | (simp [*]; done), by repeat (first | exact Drawn0.refl _ | apply Drawn0.step)⟩
  · rw [if_neg c4] at H
    have c4b0 : decide (a1 ≤ a0) = false := decide_eq_false c4
    clear c4
    obtain rfl := Option.some.inj H
    go_enter Try.func76, Try.ntmps76
    go_wp2
    go_ret
    exact ⟨by first | rfl | (simp; done) | (simp [*]; done), by repeat (first | exact Drawn0.refl _ | apply Drawn0.step)⟩

/-! ### impl_split: function 93 -/
def impl_split.l0 : Nat → Int → Int → Option (Int)
  | 0, _, _ => none
  | k + 1, x0, x3 => if (wrap64 (2 * x3)) < x0 then (impl_split.l0 k x0 (wrap64 (x3 * 2))) else (some x3)
def impl_split.f (k : Nat) (a0 : Int) : Option (Int) := impl_split.l0 k a0 1
theorem impl_split.mono_l : ∀ k, (∀ y0 y1, LeO (impl_split.l0 k y0 y1) (impl_split.l0 (k + 1) y0 y1))
  | 0 => fun _ _ r h => by simp [impl_split.l0] at h
  | k + 1 => by
    have ih0 := impl_split.mono_l k
    · intro y0 y1
      unfold impl_split.l0
      repeat' first
      | (with_reducible exact ih0 _ _)
      | (with_reducible exact LeO.refl _)
      | (with_reducible exact LeO.none _)
      | (with_reducible refine LeO.ite ?_ ?_)
      | (with_reducible refine LeO.bind ?_ (fun _ => ?_))
      | exact ih0 _ _
      | exact LeO.none _
      | refine LeO.ite ?_ ?_
      | refine LeO.bind ?_ (fun _ => ?_)
theorem impl_split.mono : ∀ a0 k, LeO (impl_split.f k a0) (impl_split.f (k + 1) a0) := by
  intro a0 k
  have ih0 := impl_split.mono_l k
  unfold impl_split.f
  repeat' first
      | (with_reducible exact ih0 _ _)
      | (with_reducible exact LeO.refl _)
      | (with_reducible exact LeO.none _)
      | (with_reducible refine LeO.ite ?_ ?_)
      | (with_reducible refine LeO.bind ?_ (fun _ => ?_))
      | exact ih0 _ _
      | exact LeO.none _
      | refine LeO.ite ?_ ?_
      | refine LeO.bind ?_ (fun _ => ?_)
set_option maxHeartbeats 8000000 in
set_option maxRecDepth 100000 in
theorem impl_split.calls (k : Nat) (a0 : Int) (r : Int) (w : World) (h : impl_split.f k a0 = some r) :
    Calls Try.prog 93 #[.int .i64 a0] w fun e w' => e = .returned (.int .i64 r) ∧ Drawn0 w w' := by
  have H : (impl_split.l0 k a0 1) = some r := h
  clear h
  have H' := Aside0.mk H
  clear H
  go_enter Try.func93, Try.ntmps93
  go_wp2
  go_loopg [3] k (fun kq v3 w' => ∃ (x3_1 : Int), v3 = .int .i64 x3_1 ∧ Aside0 (impl_split.l0 kq a0 x3_1 = some r) ∧ Aside0 (kq ≤ k) ∧ Drawn0 w w')
  case atStart => exact ⟨(1), (by first | rfl | (simp; done) | (simp [*]; done)), H', ⟨Nat.le_refl _⟩, by repeat (first | exact Drawn0.refl _ | apply Drawn0.step)⟩
  case round =>
    clear H'
    obtain ⟨x3_1, rfl, HA, HK1, ⟨m1, rfl⟩⟩ := hrel
    cases gk with
    | zero => exact absurd HA.out (by simp [impl_split.l0])
    | succ k1 =>
      have H := HA.out
      clear HA
      simp only [impl_split.l0] at H
      by_cases c2 : (wrap64 (2 * x3_1)) < a0
      · rw [if_pos c2] at H
        have c2b0 : decide ((wrap64 (2 * x3_1)) < a0) = true := decide_eq_true c2
        clear c2
        have H' := Aside0.mk H
        clear H
        go_wp2
        go_roundg k1
        case measure => have := HK1.out; omega
        case rel => exact ⟨(wrap64 (x3_1 * 2)), (by first | rfl | (simp; done) | (simp [*]; done)), H', ⟨by have := HK1.out; omega⟩, by repeat (first | exact Drawn0.refl _ | apply Drawn0.step)⟩
      · rw [if_neg c2] at H
        have c2b0 : decide ((wrap64 (2 * x3_1)) < a0) = false := decide_eq_false c2
        clear c2
        obtain rfl := Option.some.inj H
        go_wp2
        go_ret
        exact ⟨by first | rfl | (simp; done) | (simp [*]; done), by repeat (first | exact Drawn0.refl _ | apply Drawn0.step)⟩

/-! ### impl_growthRoots: function 74: by hand -/
-- IMPORT Mk
-- IMPORT U
/-- What stands behind a prover: the hashes that are left, whether one lacked, and what was hashed. -/
structure impl_growthRoots.PS (w0 w : World) (bp : Nat) (xs : List ByteArray) (b : Bool) (st : List ByteArray) : Prop where
  low : Below bp w0 w
  base : w0.heap.size ≤ bp
  ex : ∃ A c v, w.cell? ⟨bp, 0, none⟩ = some (.slice A xs.length c) ∧ w.cell? ⟨bp, 1, none⟩ = some (.bool b) ∧ w.cell? ⟨bp, 2, none⟩ = some v ∧ (w.frozen? ⟨bp, 0, none⟩ = false ∧ w.frozen? ⟨bp, 1, none⟩ = false ∧ w.frozen? ⟨bp, 2, none⟩ = false) ∧ xs.length ≤ c ∧
    ReadsOf Value.string ByteArray.empty w0 A xs.length xs ∧ w.ownsRow (bp + 1) 9 1 v st.length (pw_strs st)
theorem impl_growthRoots.PS.step {w0 w w' : World} {bp : Nat} {xs st : List ByteArray} {b : Bool} (h : impl_growthRoots.PS w0 w bp xs b st) (hb : Below w.heap.size w w') : impl_growthRoots.PS w0 w' bp xs b st := by
  obtain ⟨A, c, v, h0, h1, h2, ⟨f0, f1, f2⟩, h4, h5, h6⟩ := h.ex
  have hlt : bp < w.heap.size := World.block_lt_of_cell? w _ h0
  exact ⟨h.low.trans (hb.mono (Nat.le_of_lt hlt)), h.base, A, c, v, (hb.cell (p := ⟨bp, 0, none⟩) hlt).trans h0, (hb.cell (p := ⟨bp, 1, none⟩) hlt).trans h1, (hb.cell (p := ⟨bp, 2, none⟩) hlt).trans h2, ⟨(hb.frozen (p := ⟨bp, 0, none⟩) hlt).trans f0, (hb.frozen (p := ⟨bp, 1, none⟩) hlt).trans f1, (hb.frozen (p := ⟨bp, 2, none⟩) hlt).trans f2⟩, h4, h5, pw_own_below h6 hb⟩
theorem impl_growthRoots.own_set {w : World} {bp j n : Nat} {v u : Value} {xs : List Value} {e : TypeId} (h : w.ownsRow (bp + 1) e 1 v n xs) : (w.setCell ⟨bp, j, none⟩ u).ownsRow (bp + 1) e 1 v n xs :=
  own_move h (fun k hk => Below.heap_setCell w ⟨bp, j, none⟩ u k (by have := own_base h k hk; show k ≠ bp; omega))
set_option maxHeartbeats 1000000 in
set_option maxRecDepth 100000 in
theorem impl_growthRoots.next (w0 w : World) (bp : Nat) (xs st : List ByteArray) (b : Bool) (h : impl_growthRoots.PS w0 w bp xs b st) :
    Calls Try.prog 108 #[.pointer (some ⟨bp, 0, none⟩)] w fun e w' => e = .returned (.string (Go.Proofs.Ytpoaapedcmfcfaa.Mk.nextP xs b).1) ∧ impl_growthRoots.PS w0 w' bp (Go.Proofs.Ytpoaapedcmfcfaa.Mk.nextP xs b).2.1 (Go.Proofs.Ytpoaapedcmfcfaa.Mk.nextP xs b).2.2 st := by
  obtain ⟨A, c, v, h0, h1, h2, ⟨f0, f1, f2⟩, h4, h5, h6⟩ := h.ex
  have HP := Aside0.mk h
  have HO := Aside0.mk h6
  have HR := Aside0.mk h5
  clear h h5 h6
  cases xs with
  | nil =>
    go_enter Try.func108, Try.ntmps108
    go_wp2
    go_ret
    refine ⟨rfl, ?_⟩
    have hb : Below bp w0 (w.setCell ⟨bp, 1, none⟩ (.bool true)) := HP.out.low.setCell (p := ⟨bp, 1, none⟩) (Nat.le_refl _) _
    refine ⟨hb, HP.out.base, A, c, v, ?_, ?_, ?_, ⟨?_, ?_, ?_⟩, h4, HR.out, impl_growthRoots.own_set HO.out⟩
    · rw [World.cell?_setCell_other _ _ _ _ (by simp)]; exact h0
    · rw [World.cell?_setCell_same _ _ _ h1]; rfl
    · rw [World.cell?_setCell_other _ _ _ _ (by simp)]; exact h2
    · rw [World.frozen?_setCell]; exact f0
    · rw [World.frozen?_setCell]; exact f1
    · rw [World.frozen?_setCell]; exact f2
  | cons x t =>
    obtain ⟨ad, e0, hx0⟩ := HR.out.at_ 0 (by omega) (by simp)
    subst e0
    replace hx0 := (HP.out.low.cell (Nat.lt_of_lt_of_le (World.block_lt_of_cell? w0 _ hx0) HP.out.base)).trans hx0
    have hx1 : w.cell? ad = some (.string x) := by
      have e : ad.add (0 : Int).toNat = ad := by unfold Addr.add; split <;> simp_all
      rw [e] at hx0
      exact hx0
    clear hx0
    obtain ⟨i0, hi0, _, hz0, _⟩ := info_parts info9
    obtain ⟨A', hcut, hcr⟩ := print_cut_of (P := Try.prog) Value.string ByteArray.empty 32 9 .i64 Try.underlying32 hi0 hz0 (some ad) (x :: t).length c 1 (by simp)
    have HR2 : Aside0 (ReadsOf Value.string ByteArray.empty w0 A' ((x :: t).length - 1) t) := ⟨hcr w0 (x :: t) h4 HR.out⟩
    have hcut' : ∀ W : World, (Instr.slice 32 (.slice (some ad) (t.length + 1) c) (some (.int .i64 1)) none none).run Try.prog W = .ok (.slice A' t.length (c - 1)) W := fun W => hcut W
    clear hcr hi0 hz0 hcut
    go_enter Try.func108, Try.ntmps108
    go_wp2
    go_ret
    refine ⟨rfl, ?_⟩
    have hb : Below bp w0 (w.setCell ⟨bp, 0, none⟩ (.slice A' t.length (c - 1))) := HP.out.low.setCell (p := ⟨bp, 0, none⟩) (Nat.le_refl _) _
    refine ⟨hb, HP.out.base, A', c - 1, v, ?_, ?_, ?_, ⟨?_, ?_, ?_⟩, ?_, HR2.out, impl_growthRoots.own_set HO.out⟩
    · rw [World.cell?_setCell_same _ _ _ h0]; rfl
    · rw [World.cell?_setCell_other _ _ _ _ (by simp)]; exact h1
    · rw [World.cell?_setCell_other _ _ _ _ (by simp)]; exact h2
    · rw [World.frozen?_setCell]; exact f0
    · rw [World.frozen?_setCell]; exact f1
    · rw [World.frozen?_setCell]; exact f2
    · simp only [List.length_cons] at h4
      show t.length ≤ c - 1
      omega
theorem impl_growthRoots.split_from (f : Nat) : ∀ (n x : Nat), n ≤ 1000000 → 1 ≤ x → x ≤ 1000000 → n - x ≤ f → ∃ k, impl_split.l0 k (n : Int) (x : Int) = some ((Go.Proofs.Ytpoaapedcmfcfaa.Mk.halfGo f n x : Nat) : Int) := by
  induction f with
  | zero =>
    intro n x hn h1 h2 hf
    refine ⟨1, ?_⟩
    have w1 : wrap64 (2 * (x : Int)) = 2 * (x : Int) := Go.Proofs.Ytpoaapedcmfcfaa.U.wrap_in (by omega) (by omega)
    simp only [impl_split.l0, w1]
    rw [if_neg (by omega)]
    rfl
  | succ f ih =>
    intro n x hn h1 h2 hf
    have w1 : wrap64 (2 * (x : Int)) = 2 * (x : Int) := Go.Proofs.Ytpoaapedcmfcfaa.U.wrap_in (by omega) (by omega)
    have w2 : wrap64 ((x : Int) * 2) = ((2 * x : Nat) : Int) := (Go.Proofs.Ytpoaapedcmfcfaa.U.wrap_in (by omega) (by omega)).trans (by omega)
    by_cases h : 2 * x < n
    · obtain ⟨k, hk⟩ := ih n (2 * x) hn (by omega) (by omega) (by omega)
      refine ⟨k + 1, ?_⟩
      simp only [impl_split.l0, w1, w2]
      rw [if_pos (by clear w1 w2; omega), hk, Go.Proofs.Ytpoaapedcmfcfaa.Mk.halfGo, if_pos h]
    · refine ⟨1, ?_⟩
      simp only [impl_split.l0, w1]
      rw [if_neg (by clear w1 w2; omega), Go.Proofs.Ytpoaapedcmfcfaa.Mk.halfGo, if_neg h]
theorem impl_growthRoots.split (n : Nat) (hn : n ≤ 1000000) (w : World) : Calls Try.prog 93 #[.int .i64 (n : Int)] w fun e w' => e = .returned (.int .i64 ((Go.Proofs.Ytpoaapedcmfcfaa.Mk.halfN n : Nat) : Int)) ∧ Below w.heap.size w w' := by
  obtain ⟨k, hk⟩ := impl_growthRoots.split_from n n 1 hn (by omega) (by omega) (by omega)
  exact (impl_split.calls k (n : Int) _ w hk).mono fun e w' h => ⟨h.1, Drawn0.below h.2⟩
theorem impl_growthRoots.within (a b c : Int) (w : World) : Calls Try.prog 76 #[.int .i64 a, .int .i64 b, .int .i64 c] w fun e w' => e = .returned (.bool (decide (b ≤ a ∧ a ≤ c))) ∧ Below w.heap.size w w' := by
  have h : impl_within.f a b c = some (decide (b ≤ a ∧ a ≤ c)) := by
    unfold impl_within.f
    split <;> simp only [Option.some.injEq] <;> rw [Bool.eq_iff_iff] <;> simp <;> omega
  exact (impl_within.calls a b c _ w h).mono fun e w' h => ⟨h.1, Drawn0.below h.2⟩
theorem impl_growthRoots.start (w : World) (A : Option Addr) (c : Nat) (xs : List ByteArray) (hc : xs.length ≤ c) (hr : ReadsOf Value.string ByteArray.empty w A xs.length xs) (u : Nat) :
    impl_growthRoots.PS w (w.alloc (Obj.cells #[Value.slice A xs.length c, Value.bool false, Value.slice none 0 0] u)) w.heap.size xs false [] := by
  refine ⟨below_alloc (Below.refl _ _) _, Nat.le_refl _, A, c, .slice none 0 0, ?_, ?_, ?_, ⟨?_, ?_, ?_⟩, hc, hr, own_nil _ _ _ _⟩
  · rw [World.cell?_alloc_new]; rfl
  · rw [World.cell?_alloc_new]; rfl
  · rw [World.cell?_alloc_new]; rfl
  all_goals exact World.frozen?_alloc_new _ _ _ _
theorem impl_growthRoots.bs_of {l : List ByteArray} (h : (l.all fun x => decide (x.size ≤ 100000000)) = true) : Go.Proofs.Ytpoaapedcmfcfaa.Mk.BS l := fun x hx => of_decide_eq_true (List.all_eq_true.mp h x hx)
set_option maxHeartbeats 2000000 in
set_option maxRecDepth 100000 in
theorem impl_growthRoots.grow (w0 : World) (bp : Nat) (root : ByteArray) (hl : root.size ≤ 100000000) (q : Nat) : ∀ (m n : Nat) (known : Bool) (xs : List ByteArray) (b : Bool) (w : World), n ≤ q → n ≤ 100000 → 1 ≤ m → m ≤ n → Go.Proofs.Ytpoaapedcmfcfaa.Mk.BS xs → impl_growthRoots.PS w0 w bp xs b [] →
    Calls Try.prog 96 #[.pointer (some ⟨bp, 0, none⟩), .int .i64 (m : Int), .int .i64 (n : Int), .bool known, .string root] w fun e w' => e = .returned (.tuple #[.string (Go.Proofs.Ytpoaapedcmfcfaa.Mk.growP m n known root xs b).1, .string (Go.Proofs.Ytpoaapedcmfcfaa.Mk.growP m n known root xs b).2.1]) ∧
      impl_growthRoots.PS w0 w' bp (Go.Proofs.Ytpoaapedcmfcfaa.Mk.growP m n known root xs b).2.2.1 (Go.Proofs.Ytpoaapedcmfcfaa.Mk.growP m n known root xs b).2.2.2 [] := by
  induction q with
  | zero => intro m n known xs b w h1 h2 h3 h4; exact absurd h4 (by omega)
  | succ q ih =>
    intro m n known xs b w hq hn hm1 hmn hx hP
    by_cases he : m = n
    · subst he
      cases known with
      | true =>
        rw [Go.Proofs.Ytpoaapedcmfcfaa.Mk.growP_known]
        have HP := Aside0.mk hP
        clear hP hq hn hm1 hmn hx ih
        go_enter Try.func96, Try.ntmps96
        go_wp2_with fail
        go_ret2
        exact ⟨rfl, HP.out⟩
      | false =>
        rw [Go.Proofs.Ytpoaapedcmfcfaa.Mk.growP_next]
        have HX : Aside0 (∀ w, impl_growthRoots.PS w0 w bp xs b [] → _) := ⟨fun w h => impl_growthRoots.next w0 w bp xs [] b h⟩
        generalize Go.Proofs.Ytpoaapedcmfcfaa.Mk.nextP xs b = t at *
        obtain ⟨th, tx, tb⟩ := t
        simp only at HX ⊢
        have HP := Aside0.mk hP
        clear hP hq hn hm1 hmn hx ih
        go_enter Try.func96, Try.ntmps96
        go_wp2_with (first
          | (go_at_call 108; refine (HX.out _ HP.out).mono ?_; rintro e W3 ⟨rfl, hp3⟩; have HP3 := Aside0.mk hp3; clear hp3))
        go_ret2
        exact ⟨rfl, HP3.out⟩
    · have hh := Go.Proofs.Ytpoaapedcmfcfaa.Mk.halfN_lt n (by omega)
      have HSP : Aside0 (∀ w, Calls Try.prog 93 #[.int .i64 (n : Int)] w fun e w' => e = .returned (.int .i64 ((Go.Proofs.Ytpoaapedcmfcfaa.Mk.halfN n : Nat) : Int)) ∧ Below w.heap.size w w') := ⟨fun w => impl_growthRoots.split n (by omega) w⟩
      have HNO : Aside0 (∀ (l r : ByteArray) (w : World), l.size ≤ 100000000 → r.size ≤ 100000000 → Calls Try.prog 55 #[.string l, .string r] w fun e w' => e = .returned (.string (Go.Proofs.Ytpoaapedcmfcfaa.Mk.nodeOf l r)) ∧ Below w.heap.size w w') := ⟨fun l r w hl hr => impl_nodeHash.calls l r _ w (by
        unfold impl_nodeHash.f impl_hash.f
        rw [if_pos (by omega), if_pos (by omega), if_pos (by rw [ByteArray.size_append, ByteArray.size_append]; show 1 + _ + _ ≤ _; omega)]
        rfl)⟩
      have c0 : ((m : Int) == (n : Int)) = false := beq_eq_false_iff_ne.mpr (by omega)
      by_cases hlow : m ≤ Go.Proofs.Ytpoaapedcmfcfaa.Mk.halfN n
      · rw [Go.Proofs.Ytpoaapedcmfcfaa.Mk.growP_low _ _ _ _ _ _ he (by omega) hlow]
        obtain ⟨a1, a2, a3, a4⟩ := Go.Proofs.Ytpoaapedcmfcfaa.Mk.growP_bs root hl q m (Go.Proofs.Ytpoaapedcmfcfaa.Mk.halfN n) known xs b (by omega) hm1 hlow hx
        have HI : Aside0 (∀ w, impl_growthRoots.PS w0 w bp xs b [] → _) := ⟨fun w h => ih m (Go.Proofs.Ytpoaapedcmfcfaa.Mk.halfN n) known xs b w (by omega) (by omega) hm1 hlow hx h⟩
        generalize Go.Proofs.Ytpoaapedcmfcfaa.Mk.halfN n = k at *
        generalize Go.Proofs.Ytpoaapedcmfcfaa.Mk.growP m k known root xs b = r at *
        obtain ⟨r1, r2, rx, rb⟩ := r
        simp only at a1 a2 a3 a4 HI ⊢
        obtain ⟨b1, b2, b3⟩ := Go.Proofs.Ytpoaapedcmfcfaa.Mk.nextP_bs rx rb a3
        have HX : Aside0 (∀ w, impl_growthRoots.PS w0 w bp rx rb [] → _) := ⟨fun w h => impl_growthRoots.next w0 w bp rx [] rb h⟩
        generalize Go.Proofs.Ytpoaapedcmfcfaa.Mk.nextP rx rb = t at *
        obtain ⟨th, tx, tb⟩ := t
        simp only at b1 b2 b3 HX ⊢
        have HD : Aside0 (∀ w, _) := ⟨fun w => HNO.out r2 th w a2 b1⟩
        have HP := Aside0.mk hP
        have c2 : (m : Int) ≤ (k : Int) := by omega
        clear hP hm1 hmn hn hq hx hh hlow a1 a2 a3 a4 b1 b2 b3 ih HNO he
        go_enter Try.func96, Try.ntmps96
        go_wp2_with (first
          | (go_at_call 93; refine (HSP.out _).mono ?_; rintro e W1 ⟨rfl, hb1⟩; have HP1 := Aside0.mk (HP.out.step hb1); clear hb1)
          | (go_at_call 96; refine (HI.out _ HP1.out).mono ?_; rintro e W2 ⟨rfl, hp2⟩; have HP2 := Aside0.mk hp2; clear hp2)
          | (go_at_call 108; refine (HX.out _ HP2.out).mono ?_; rintro e W3 ⟨rfl, hp3⟩; have HP3 := Aside0.mk hp3; clear hp3)
          | (go_at_call 55; refine (HD.out _).mono ?_; rintro e W4 ⟨rfl, hb4⟩; have HP4 := Aside0.mk (HP3.out.step hb4); clear hb4))
        go_ret2
        exact ⟨rfl, HP4.out⟩
      · rw [Go.Proofs.Ytpoaapedcmfcfaa.Mk.growP_high _ _ _ _ _ _ he (by omega) hlow]
        obtain ⟨a1, a2, a3, a4⟩ := Go.Proofs.Ytpoaapedcmfcfaa.Mk.growP_bs root hl q (m - Go.Proofs.Ytpoaapedcmfcfaa.Mk.halfN n) (n - Go.Proofs.Ytpoaapedcmfcfaa.Mk.halfN n) false xs b (by omega) (by omega) (by omega) hx
        have HI : Aside0 (∀ w, impl_growthRoots.PS w0 w bp xs b [] → _) := ⟨fun w h => ih (m - Go.Proofs.Ytpoaapedcmfcfaa.Mk.halfN n) (n - Go.Proofs.Ytpoaapedcmfcfaa.Mk.halfN n) false xs b w (by omega) (by omega) (by omega) (by omega) hx h⟩
        generalize Go.Proofs.Ytpoaapedcmfcfaa.Mk.halfN n = k at *
        obtain ⟨m1, hi1⟩ : ∃ q, m - k = q := ⟨_, rfl⟩
        obtain ⟨n1, hn1⟩ : ∃ q, n - k = q := ⟨_, rfl⟩
        rw [hi1, hn1] at HI a1 a2 a3 a4 ⊢
        have e1 : IntKind.i64.wrap ((m : Int) - (k : Int)) = (m1 : Int) := by rw [← hi1]; exact (IntWalk.i64_in _ (by omega)).trans (by omega)
        have e2 : IntKind.i64.wrap ((n : Int) - (k : Int)) = (n1 : Int) := by rw [← hn1]; exact (IntWalk.i64_in _ (by omega)).trans (by omega)
        generalize Go.Proofs.Ytpoaapedcmfcfaa.Mk.growP m1 n1 false root xs b = r at *
        obtain ⟨r1, r2, rx, rb⟩ := r
        simp only at a1 a2 a3 a4 HI ⊢
        obtain ⟨b1, b2, b3⟩ := Go.Proofs.Ytpoaapedcmfcfaa.Mk.nextP_bs rx rb a3
        have HX : Aside0 (∀ w, impl_growthRoots.PS w0 w bp rx rb [] → _) := ⟨fun w h => impl_growthRoots.next w0 w bp rx [] rb h⟩
        generalize Go.Proofs.Ytpoaapedcmfcfaa.Mk.nextP rx rb = t at *
        obtain ⟨th, tx, tb⟩ := t
        simp only at b1 b2 b3 HX ⊢
        have HD : Aside0 (∀ w, _) := ⟨fun w => HNO.out th r1 w b1 a1⟩
        have HD2 : Aside0 (∀ w, _) := ⟨fun w => HNO.out th r2 w b1 a2⟩
        have HP := Aside0.mk hP
        have c2 : (k : Int) < (m : Int) := by omega
        clear hP hm1 hmn hn hq hx hh hlow a1 a2 a3 a4 b1 b2 b3 ih HNO he hi1 hn1
        go_enter Try.func96, Try.ntmps96
        go_wp2_with (first
          | (go_at_call 93; refine (HSP.out _).mono ?_; rintro e W1 ⟨rfl, hb1⟩; have HP1 := Aside0.mk (HP.out.step hb1); clear hb1)
          | (go_at_call 96; refine (HI.out _ HP1.out).mono ?_; rintro e W2 ⟨rfl, hp2⟩; have HP2 := Aside0.mk hp2; clear hp2)
          | (go_at_call 108; refine (HX.out _ HP2.out).mono ?_; rintro e W3 ⟨rfl, hp3⟩; have HP3 := Aside0.mk hp3; clear hp3)
          | (go_at_call 55; with_reducible refine (HD.out _).mono ?_; rintro e W4 ⟨rfl, hb4⟩; have HP4 := Aside0.mk (HP3.out.step hb4); clear hb4)
          | (go_at_call 55; with_reducible refine (HD2.out _).mono ?_; rintro e W5 ⟨rfl, hb5⟩; have HP5 := Aside0.mk (HP4.out.step hb5); clear hb5))
        go_ret2
        exact ⟨rfl, HP5.out⟩
def impl_growthRoots.groot (t : ByteArray × ByteArray × List ByteArray × Bool) : ByteArray × ByteArray × Int :=
  if t.2.2.2 = true ∨ 0 < t.2.2.1.length then (⟨#[]⟩, ⟨#[]⟩, 10) else (t.1, t.2.1, 0)
def impl_growthRoots.f (a0 a1 : Int) (a2 : ByteArray) (l3 : List ByteArray) : Option (ByteArray × ByteArray × Int) :=
  if a2.size ≤ 100000000 ∧ (l3.all fun x => decide (x.size ≤ 100000000)) = true then
    some (if 1 ≤ a1 ∧ a1 ≤ 64 ∧ 1 ≤ a0 ∧ a0 ≤ a1 then impl_growthRoots.groot (Go.Proofs.Ytpoaapedcmfcfaa.Mk.growP a0.toNat a1.toNat true a2 l3 false) else (⟨#[]⟩, ⟨#[]⟩, 4)) else none
set_option maxHeartbeats 400000 in
set_option maxRecDepth 100000 in
theorem impl_growthRoots.calls_in (a2 : ByteArray) (i n : Nat) (A3 : Option Addr) (c3 : Nat) (l3 : List ByteArray) (r : ByteArray × ByteArray × List ByteArray × Bool) (w : World) (hr3 : Kd.C Kd.string w A3 l3.length l3) (hc3 : l3.length ≤ c3)
    (hn1 : 1 ≤ n) (hn : n ≤ 64) (hi1 : 1 ≤ i) (hi : i ≤ n)
    (HI : Aside0 (∀ (w0 w : World) (bp : Nat), impl_growthRoots.PS w0 w bp l3 false [] → Calls Try.prog 96 #[.pointer (some ⟨bp, 0, none⟩), .int .i64 (i : Int), .int .i64 (n : Int), .bool true, .string a2] w fun e w' => e = .returned (.tuple #[.string r.1, .string r.2.1]) ∧ impl_growthRoots.PS w0 w' bp r.2.2.1 r.2.2.2 [])) :
    Calls Try.prog 74 #[.int .i64 (i : Int), .int .i64 (n : Int), .string a2, .slice A3 l3.length c3] w fun e w' => e = .returned (.tuple #[.string (impl_growthRoots.groot r).1, .string (impl_growthRoots.groot r).2.1, .int .i64 (impl_growthRoots.groot r).2.2]) ∧ Below w.heap.size w w' := by
  have HW : Aside0 (∀ w, Calls Try.prog 76 #[.int .i64 (n : Int), .int .i64 1, .int .i64 64] w fun e w' => e = .returned (.bool true) ∧ Below w.heap.size w w') := ⟨fun w => by have := impl_growthRoots.within (n : Int) 1 64 w; rw [decide_eq_true (by omega)] at this; exact this⟩
  have HW2 : Aside0 (∀ w, Calls Try.prog 76 #[.int .i64 (i : Int), .int .i64 1, .int .i64 (n : Int)] w fun e w' => e = .returned (.bool true) ∧ Below w.heap.size w w') := ⟨fun w => by have := impl_growthRoots.within (i : Int) 1 (n : Int) w; rw [decide_eq_true (by omega)] at this; exact this⟩
  have HR3 := Aside0.mk hr3
  have HC3 := Aside0.mk hc3
  clear hr3 hc3 hn1 hn hi hi1
  obtain ⟨rh, rg, rx, rb⟩ := r
  simp only at HI
  generalize hq : impl_growthRoots.groot (rh, rg, rx, rb) = q
  obtain ⟨q1, q2, q3⟩ := q
  have HQ := Aside0.mk hq
  clear hq
  have hcs : (rb = true) ∨ (rb = false ∧ 0 < rx.length) ∨ (rb = false ∧ ¬ 0 < rx.length) := by
    cases rb
    · rcases Nat.eq_zero_or_pos rx.length with h0 | h0
      · exact .inr (.inr ⟨rfl, by omega⟩)
      · exact .inr (.inl ⟨rfl, by omega⟩)
    · exact .inl rfl
  rcases hcs with rfl | ⟨rfl, hlen⟩ | ⟨rfl, hlen⟩
  all_goals
    go_enter Try.func74, Try.ntmps74
    go_wp2_with (first
      | (go_at_call 76; with_reducible refine (HW.out _).mono ?_; rintro e W1 ⟨rfl, hb1⟩; have HB1 := Aside0.mk hb1; clear hb1)
      | (go_at_call 76; with_reducible refine (HW2.out _).mono ?_; rintro e W2 ⟨rfl, hb2⟩; have HB2 := Aside0.mk (HB1.out.trans (hb2.mono HB1.out.size)); clear hb2)
      | (go_at_call 96; refine (HI.out W2 _ W2.heap.size (impl_growthRoots.start W2 A3 c3 l3 HC3.out ((Kd.reads_of_C (enc := Value.string) (d := ByteArray.empty) (h1 := fun _ => rfl) HR3.out).below HB2.out) _)).mono ?_; rintro e W3 ⟨rfl, hp3⟩; obtain ⟨A5, c5, v5, k0, k1, k2, ⟨g0, g1, g2⟩, hx5, _, ho5⟩ := hp3.ex; have HP3 := Aside0.mk hp3; clear hp3 ho5 hx5))
    go_ret3
  · have e := HQ.out
    rw [impl_growthRoots.groot, if_pos (.inl rfl)] at e
    injection e with e1 e; injection e with e2 e3
    subst e1 e2 e3
    exact ⟨rfl, HB2.out.trans (HP3.out.low.mono HB2.out.size)⟩
  · have e := HQ.out
    rw [impl_growthRoots.groot, if_pos (.inr hlen)] at e
    injection e with e1 e; injection e with e2 e3
    subst e1 e2 e3
    exact ⟨rfl, HB2.out.trans (HP3.out.low.mono HB2.out.size)⟩
  · have e := HQ.out
    rw [impl_growthRoots.groot, if_neg (by rintro (h | h); exact absurd h (by simp); exact hlen h)] at e
    injection e with e1 e; injection e with e2 e3
    subst e1 e2 e3
    exact ⟨rfl, HB2.out.trans (HP3.out.low.mono HB2.out.size)⟩
set_option maxHeartbeats 1000000 in
set_option maxRecDepth 100000 in
theorem impl_growthRoots.calls_out (a0 a1 : Int) (a2 : ByteArray) (A3 : Option Addr) (c3 : Nat) (n3 : Nat) (w : World) (h : ¬ (1 ≤ a1 ∧ a1 ≤ 64 ∧ 1 ≤ a0 ∧ a0 ≤ a1)) :
    Calls Try.prog 74 #[.int .i64 a0, .int .i64 a1, .string a2, .slice A3 n3 c3] w fun e w' => e = .returned (.tuple #[.string ⟨#[]⟩, .string ⟨#[]⟩, .int .i64 4]) ∧ Below w.heap.size w w' := by
  by_cases h1 : 1 ≤ a1 ∧ a1 ≤ 64
  · have h2 : ¬ (1 ≤ a0 ∧ a0 ≤ a1) := fun k => h ⟨h1.1, h1.2, k.1, k.2⟩
    have HW : Aside0 (∀ w, Calls Try.prog 76 #[.int .i64 a1, .int .i64 1, .int .i64 64] w fun e w' => e = .returned (.bool true) ∧ Below w.heap.size w w') := ⟨fun w => by have := impl_growthRoots.within a1 1 64 w; rw [decide_eq_true h1] at this; exact this⟩
    have HW2 : Aside0 (∀ w, Calls Try.prog 76 #[.int .i64 a0, .int .i64 1, .int .i64 a1] w fun e w' => e = .returned (.bool false) ∧ Below w.heap.size w w') := ⟨fun w => by have := impl_growthRoots.within a0 1 a1 w; rw [decide_eq_false h2] at this; exact this⟩
    clear h h1 h2
    go_enter Try.func74, Try.ntmps74
    go_wp2_with (first
      | (go_at_call 76; with_reducible refine (HW.out _).mono ?_; rintro e W1 ⟨rfl, hb1⟩; have HB1 := Aside0.mk hb1; clear hb1)
      | (go_at_call 76; with_reducible refine (HW2.out _).mono ?_; rintro e W2 ⟨rfl, hb2⟩; have HB2 := Aside0.mk (HB1.out.trans (hb2.mono HB1.out.size)); clear hb2))
    go_ret3
    exact ⟨rfl, HB2.out⟩
  · have HW : Aside0 (∀ w, Calls Try.prog 76 #[.int .i64 a1, .int .i64 1, .int .i64 64] w fun e w' => e = .returned (.bool false) ∧ Below w.heap.size w w') := ⟨fun w => by have := impl_growthRoots.within a1 1 64 w; rw [decide_eq_false h1] at this; exact this⟩
    clear h h1
    go_enter Try.func74, Try.ntmps74
    go_wp2_with (first
      | (go_at_call 76; with_reducible refine (HW.out _).mono ?_; rintro e W1 ⟨rfl, hb1⟩; have HB1 := Aside0.mk hb1; clear hb1))
    go_ret3
    exact ⟨rfl, HB1.out⟩
theorem impl_growthRoots.calls (a0 a1 : Int) (a2 : ByteArray) (A3 : Option Addr) (c3 : Nat) (l3 : List ByteArray) (r1 : ByteArray) (r2 : ByteArray) (r3 : Int) (w : World) (hr3 : Kd.C Kd.string w A3 l3.length l3) (hc3 : l3.length ≤ c3) (h : impl_growthRoots.f a0 a1 a2 l3 = some (r1, r2, r3)) :
    Calls Try.prog 74 #[.int .i64 a0, .int .i64 a1, .string a2, .slice A3 l3.length c3] w fun e w' => e = .returned (.tuple #[.string r1, .string r2, .int .i64 r3]) ∧ Below w.heap.size w w' := by
  unfold impl_growthRoots.f at h
  split at h
  · rename_i hs
    replace h := Option.some.inj h
    obtain ⟨hs1, hs2⟩ := hs
    split at h
    · rename_i hin
      obtain ⟨i, rfl⟩ := Int.eq_ofNat_of_zero_le (show 0 ≤ a0 by omega)
      obtain ⟨n, rfl⟩ := Int.eq_ofNat_of_zero_le (show 0 ≤ a1 by omega)
      rw [Int.toNat_natCast, Int.toNat_natCast] at h
      have := impl_growthRoots.calls_in a2 i n A3 c3 l3 _ w hr3 hc3 (by omega) (by omega) (by omega) (by omega) ⟨fun w0 w bp h => impl_growthRoots.grow w0 bp a2 hs1 n i n true l3 false w (Nat.le_refl _) (by omega) (by omega) (by omega) (impl_growthRoots.bs_of hs2) h⟩
      rw [h] at this
      exact this
    · rename_i hin
      injection h with e1 e; injection e with e2 e3
      subst e1 e2 e3
      exact impl_growthRoots.calls_out a0 a1 a2 A3 c3 l3.length w hin
  · cases h

/-! ### impl_ConsistencyRoots: function 36 -/
def impl_ConsistencyRoots.f (k : Nat) (a0 : Int) (a1 : Int) (a2 : ByteArray) (l3 : List ByteArray) : Option (ByteArray × ByteArray × Int) := (impl_proofCode.f k l3 (([a2] : List ByteArray))).bind fun t148 => (if t148 = 0 then ((impl_growthRoots.f a0 a1 a2 l3).bind fun bt149 => (some (bt149.1, bt149.2.1, bt149.2.2))) else (some ((⟨#[]⟩ : ByteArray), (⟨#[]⟩ : ByteArray), t148)))
theorem impl_ConsistencyRoots.mono : ∀ a0 a1 a2 a3 k, LeO (impl_ConsistencyRoots.f k a0 a1 a2 a3) (impl_ConsistencyRoots.f (k + 1) a0 a1 a2 a3) := by
  intro a0 a1 a2 a3 k
  unfold impl_ConsistencyRoots.f
  repeat' first
      | (with_reducible exact impl_proofCode.mono _ _ _)
      | (with_reducible exact LeO.refl _)
      | (with_reducible exact LeO.none _)
      | (with_reducible refine LeO.ite ?_ ?_)
      | (with_reducible refine LeO.bind ?_ (fun _ => ?_))
      | exact impl_proofCode.mono _ _ _
      | exact LeO.none _
      | refine LeO.ite ?_ ?_
      | refine LeO.bind ?_ (fun _ => ?_)
set_option maxHeartbeats 8000000 in
set_option maxRecDepth 100000 in
theorem impl_ConsistencyRoots.calls (k : Nat) (a0 : Int) (a1 : Int) (a2 : ByteArray) (A3 : Option Addr) (c3 : Nat) (l3 : List ByteArray) (r1 : ByteArray) (r2 : ByteArray) (r3 : Int) (w : World) (hr3 : Kd.C Kd.string w A3 l3.length l3) (hc3 : l3.length ≤ c3) (h : impl_ConsistencyRoots.f k a0 a1 a2 l3 = some (r1, r2, r3)) :
    Calls Try.prog 36 #[.int .i64 a0, .int .i64 a1, .string a2, .slice A3 l3.length c3] w fun e w' => e = .returned (.tuple #[.string r1, .string r2, .int .i64 r3]) ∧ Below w.heap.size w w' := by
  have HR3 := Aside0.mk hr3
  have HC3 := Aside0.mk hc3
  clear hr3 hc3
  have HB := Aside0.mk (Below.refl w.heap.size w)
  have H : ((impl_proofCode.f k l3 (([a2] : List ByteArray))).bind fun t148 => (if t148 = 0 then ((impl_growthRoots.f a0 a1 a2 l3).bind fun bt149 => (some (bt149.1, bt149.2.1, bt149.2.2))) else (some ((⟨#[]⟩ : ByteArray), (⟨#[]⟩ : ByteArray), t148)))) = some (r1, r2, r3) := h
  clear h
  obtain ⟨y145, hy145⟩ : ∃ y_ : List ByteArray, y_ = (([a2] : List ByteArray)) := ⟨_, rfl⟩
  replace H : ((impl_proofCode.f k l3 y145).bind fun t148 => (if t148 = 0 then ((impl_growthRoots.f a0 a1 a2 l3).bind fun bt149 => (some (bt149.1, bt149.2.1, bt149.2.2))) else (some ((⟨#[]⟩ : ByteArray), (⟨#[]⟩ : ByteArray), t148)))) = some (r1, r2, r3) := by first | (rw [hy145]; with_reducible exact H) | (have H2_ := (Option.bind_some _ _).symm.trans H; rw [hy145]; with_reducible exact H2_) | (have H2_ := (Option.bind_some _ _).symm.trans H; with_reducible exact H2_) | with_reducible exact H | (rw [hy145]; exact H) | exact H
  have Ny145 := Aside0.mk hy145
  clear hy145
  replace H := Option.bind_eq_some_iff.mp H
  obtain ⟨t148, A50, H⟩ := H
  replace H : (if t148 = 0 then ((impl_growthRoots.f a0 a1 a2 l3).bind fun bt149 => (some (bt149.1, bt149.2.1, bt149.2.2))) else (some ((⟨#[]⟩ : ByteArray), (⟨#[]⟩ : ByteArray), t148))) = some (r1, r2, r3) := H
  have A5 := Aside0.mk A50
  clear A50
  by_cases c6 : t148 = 0
  · rw [if_pos c6] at H
    have c6b0 : (t148 == 0) = true := beq_iff_eq.mpr c6
    have c6b1 : (t148 != 0) = false := bne_eq_false_iff_eq.mpr c6
    clear c6
    replace H := Option.bind_eq_some_iff.mp H
    obtain ⟨⟨t149, t150, t151⟩, A70, H⟩ := H
    replace H : (some (t149, t150, t151)) = some (r1, r2, r3) := H
    have A7 := Aside0.mk A70
    clear A70
    simp only [Option.some.injEq, Prod.mk.injEq] at H
    obtain ⟨rfl, rfl, rfl⟩ := H
    go_enter Try.func36, Try.ntmps36
    go_wp2_with (first | ((with_reducible refine gate_dst (N := 14) rfl ?_); refine Kd.R_lit Kd.string _ 9 ?hg (N := 14) ?hd (xs := ([a2] : List ByteArray)) (inner := [.string a2]) (ok := fun _ => True) (okp := fun _ => True) ?hr ?hp (fun _ hk => hk) trivial (Below.refl _ _) (Nat.le_refl _) (by simp) ?_; (case hd => rfl); (case hg => rfl); (case hr => first | (go_simp; done) | (go_simp; rfl)); (case hp => exact (Reps.one (show Kd.M Kd.string _ _ _ a2 [.string a2] from rfl) (Reps.none _ _))); intro v146 w8 ho9 hb hg_ hnew_; clear hg_ hnew_; (first | rw [← Ny145.out] at ho9 | (simp only [Int.reduceToNat] at ho9; rw [← Ny145.out] at ho9)); have n0_ := Aside0.mk (Kd.R_lower ho9 (below_size (by repeat (first | (with_reducible first | exact HB.out | apply below_alloc | apply pw_below_drewN | apply below_drew1) | exact HB.out)))); have n1_ := Aside0.mk (below_step (by repeat (first | (with_reducible first | exact HB.out | apply below_alloc | apply pw_below_drewN | apply below_drew1) | exact HB.out)) hb); clear HB; have HO147 := n0_; have HB := n1_; clear n0_ n1_; clear hb ho9; obtain ⟨Ao10, co10, eo10⟩ := Kd.R_slice HO147.out; subst eo10) | ((with_reducible refine gate_callee (f := 71) rfl ?_); refine goesL_ (some 15) rfl rfl Try.func71 (by kernel_rfl) rfl #[.slice A3 l3.length c3, .slice Ao10 y145.length co10] rfl (by (try simp only [List.map_toArray, List.map_cons, List.map_nil]); first | done | rfl | (simp only [List.length_drop, List.length_take]; rfl)) ?_; (with_reducible refine (impl_proofCode.calls k _ _ l3 _ _ y145 t148 _ ?side1 ?side2 ?side3 ?side4 A5.out).mono ?_); (case side1 => repeat (first | exact (Kd.C_below HR3.out HB.out) | (with_reducible refine Kd.C_alloc ?_ _) | (with_reducible refine Kd.C_drewN ?_ _) | (with_reducible refine Kd.C_drew ?_))); (case side2 => exact HC3.out); (case side3 => repeat (first | exact (Kd.R_reads' HO147.out).2.2 | (with_reducible refine Kd.C_alloc ?_ _) | (with_reducible refine Kd.C_drewN ?_ _) | (with_reducible refine Kd.C_drew ?_))); (case side4 => exact (Kd.R_reads' HO147.out).2.1); rintro e w' ⟨rfl, ⟨nd, rfl⟩⟩; refine ⟨_, rfl, ?_⟩) | ((with_reducible refine gate_callee (f := 74) rfl ?_); refine goesL_ (some 23) rfl rfl Try.func74 (by kernel_rfl) rfl #[.int .i64 a0, .int .i64 a1, .string a2, .slice A3 l3.length c3] rfl (by (try simp only [List.map_toArray, List.map_cons, List.map_nil]); first | done | rfl | (simp only [List.length_drop, List.length_take]; rfl)) ?_; (with_reducible refine (impl_growthRoots.calls a0 a1 a2 _ _ l3 t149 t150 t151 _ ?side1 ?side2 A7.out).mono ?_); (case side1 => repeat (first | exact (Kd.C_below HR3.out (by repeat (first | (with_reducible first | exact HB.out | apply below_alloc | apply pw_below_drewN | apply below_drew1) | exact HB.out))) | (with_reducible refine Kd.C_alloc ?_ _) | (with_reducible refine Kd.C_drewN ?_ _) | (with_reducible refine Kd.C_drew ?_))); (case side2 => exact HC3.out); rintro e w11 ⟨rfl, hb⟩; refine ⟨_, rfl, ?_⟩; have n0_ := Aside0.mk (Kd.R_below (by (with_reducible repeat (first | apply Kd.R_alloc | apply Kd.R_drewN | apply Kd.R_drew)); exact HO147.out) hb); have n1_ := Aside0.mk (below_step (by repeat (first | (with_reducible first | exact HB.out | apply below_alloc | apply pw_below_drewN | apply below_drew1) | exact HB.out)) hb); clear HO147; clear HB; have HO147 := n0_; have HB := n1_; clear n0_ n1_; (try clear hb); (try clear hb2); (try clear hk); (try clear hi)))
    go_ret3
    exact ⟨by first | rfl | (simp [errW_none, errW_some] <;> rfl) | (simp [*, errW_none, errW_some] <;> rfl), by repeat (first | (with_reducible first | exact HB.out | apply below_alloc | apply pw_below_drewN | apply below_drew1) | exact HB.out)⟩
  · rw [if_neg c6] at H
    have c6b0 : (t148 == 0) = false := beq_eq_false_iff_ne.mpr c6
    have c6b1 : (t148 != 0) = true := bne_iff_ne.mpr c6
    simp only [Option.some.injEq, Prod.mk.injEq] at H
    obtain ⟨rfl, rfl, rfl⟩ := H
    go_enter Try.func36, Try.ntmps36
    go_wp2_with (first | ((with_reducible refine gate_dst (N := 14) rfl ?_); refine Kd.R_lit Kd.string _ 9 ?hg (N := 14) ?hd (xs := ([a2] : List ByteArray)) (inner := [.string a2]) (ok := fun _ => True) (okp := fun _ => True) ?hr ?hp (fun _ hk => hk) trivial (Below.refl _ _) (Nat.le_refl _) (by simp) ?_; (case hd => rfl); (case hg => rfl); (case hr => first | (go_simp; done) | (go_simp; rfl)); (case hp => exact (Reps.one (show Kd.M Kd.string _ _ _ a2 [.string a2] from rfl) (Reps.none _ _))); intro v146 w12 ho13 hb hg_ hnew_; clear hg_ hnew_; (first | rw [← Ny145.out] at ho13 | (simp only [Int.reduceToNat] at ho13; rw [← Ny145.out] at ho13)); have n0_ := Aside0.mk (Kd.R_lower ho13 (below_size (by repeat (first | (with_reducible first | exact HB.out | apply below_alloc | apply pw_below_drewN | apply below_drew1) | exact HB.out)))); have n1_ := Aside0.mk (below_step (by repeat (first | (with_reducible first | exact HB.out | apply below_alloc | apply pw_below_drewN | apply below_drew1) | exact HB.out)) hb); clear HB; have HO147 := n0_; have HB := n1_; clear n0_ n1_; clear hb ho13; obtain ⟨Ao14, co14, eo14⟩ := Kd.R_slice HO147.out; subst eo14) | ((with_reducible refine gate_callee (f := 71) rfl ?_); refine goesL_ (some 15) rfl rfl Try.func71 (by kernel_rfl) rfl #[.slice A3 l3.length c3, .slice Ao14 y145.length co14] rfl (by (try simp only [List.map_toArray, List.map_cons, List.map_nil]); first | done | rfl | (simp only [List.length_drop, List.length_take]; rfl)) ?_; (with_reducible refine (impl_proofCode.calls k _ _ l3 _ _ y145 t148 _ ?side1 ?side2 ?side3 ?side4 A5.out).mono ?_); (case side1 => repeat (first | exact (Kd.C_below HR3.out HB.out) | (with_reducible refine Kd.C_alloc ?_ _) | (with_reducible refine Kd.C_drewN ?_ _) | (with_reducible refine Kd.C_drew ?_))); (case side2 => exact HC3.out); (case side3 => repeat (first | exact (Kd.R_reads' HO147.out).2.2 | (with_reducible refine Kd.C_alloc ?_ _) | (with_reducible refine Kd.C_drewN ?_ _) | (with_reducible refine Kd.C_drew ?_))); (case side4 => exact (Kd.R_reads' HO147.out).2.1); rintro e w' ⟨rfl, ⟨nd, rfl⟩⟩; refine ⟨_, rfl, ?_⟩))
    go_ret3
    exact ⟨by first | rfl | (simp [errW_none, errW_some] <;> rfl) | (simp [*, errW_none, errW_some] <;> rfl), by repeat (first | (with_reducible first | exact HB.out | apply below_alloc | apply pw_below_drewN | apply below_drew1) | exact HB.out)⟩

/-! ### laws_FnExactConsistencyRoots: function 10 -/
def laws_FnExactConsistencyRoots.j0 : Nat → List ByteArray → List ByteArray → Bool → Option (Bool)
  | 0, _, _, _ => none
  | k + 1, x3, x13, x58 => if x58 = true then (some false) else ((laws_toStringS.f k x3).bind fun t165 => ((laws_eqStringS.f k x13 t165).bind fun t168 => (if t168 = true then (some true) else (some false))))
def laws_FnExactConsistencyRoots.f (k : Nat) (a0 : Int) (a1 : Int) (a2 : ByteArray) (l3 : List ByteArray) : Option (Bool) := if (a2.size : Int) > 1048576 then (some true) else ((laws_szStringS.f k l3 1048576).bind fun t152 => (if t152 < 0 then (some true) else ((laws_toStringS.f k l3).bind fun t153 => ((spec_ConsistencyRoots.f k a0 a1 a2 t153).bind fun bt156 => ((laws_toStringS.f k l3).bind fun t159 => ((impl_ConsistencyRoots.f k a0 a1 a2 t159).bind fun bt162 => (if bt162.1.toList = bt156.1.toList then (if bt162.2.1.toList = bt156.2.1.toList then (laws_FnExactConsistencyRoots.j0 k l3 t159 (bt162.2.2 != bt156.2.2)) else (laws_FnExactConsistencyRoots.j0 k l3 t159 true)) else (laws_FnExactConsistencyRoots.j0 k l3 t159 true))))))))
theorem laws_FnExactConsistencyRoots.mono_l : ∀ k, (∀ y0 y1 y2, LeO (laws_FnExactConsistencyRoots.j0 k y0 y1 y2) (laws_FnExactConsistencyRoots.j0 (k + 1) y0 y1 y2))
  | 0 => fun _ _ _ r h => by simp [laws_FnExactConsistencyRoots.j0] at h
  | k + 1 => by
    have ih0 := laws_FnExactConsistencyRoots.mono_l k
    · intro y0 y1 y2
      unfold laws_FnExactConsistencyRoots.j0
      repeat' first
      | (with_reducible exact ih0 _ _ _)
      | (with_reducible exact impl_ConsistencyRoots.mono _ _ _ _ _)
      | (with_reducible exact laws_eqStringS.mono _ _ _)
      | (with_reducible exact laws_szStringS.mono _ _ _)
      | (with_reducible exact laws_toStringS.mono _ _)
      | (with_reducible exact spec_ConsistencyRoots.mono _ _ _ _ _)
      | (with_reducible exact LeO.refl _)
      | (with_reducible exact LeO.none _)
      | (with_reducible refine LeO.ite ?_ ?_)
      | (with_reducible refine LeO.bind ?_ (fun _ => ?_))
      | exact ih0 _ _ _
      | exact impl_ConsistencyRoots.mono _ _ _ _ _
      | exact laws_eqStringS.mono _ _ _
      | exact laws_szStringS.mono _ _ _
      | exact laws_toStringS.mono _ _
      | exact spec_ConsistencyRoots.mono _ _ _ _ _
      | exact LeO.none _
      | refine LeO.ite ?_ ?_
      | refine LeO.bind ?_ (fun _ => ?_)
theorem laws_FnExactConsistencyRoots.mono : ∀ a0 a1 a2 a3 k, LeO (laws_FnExactConsistencyRoots.f k a0 a1 a2 a3) (laws_FnExactConsistencyRoots.f (k + 1) a0 a1 a2 a3) := by
  intro a0 a1 a2 a3 k
  have ih0 := laws_FnExactConsistencyRoots.mono_l k
  unfold laws_FnExactConsistencyRoots.f
  repeat' first
      | (with_reducible exact ih0 _ _ _)
      | (with_reducible exact impl_ConsistencyRoots.mono _ _ _ _ _)
      | (with_reducible exact laws_eqStringS.mono _ _ _)
      | (with_reducible exact laws_szStringS.mono _ _ _)
      | (with_reducible exact laws_toStringS.mono _ _)
      | (with_reducible exact spec_ConsistencyRoots.mono _ _ _ _ _)
      | (with_reducible exact LeO.refl _)
      | (with_reducible exact LeO.none _)
      | (with_reducible refine LeO.ite ?_ ?_)
      | (with_reducible refine LeO.bind ?_ (fun _ => ?_))
      | exact ih0 _ _ _
      | exact impl_ConsistencyRoots.mono _ _ _ _ _
      | exact laws_eqStringS.mono _ _ _
      | exact laws_szStringS.mono _ _ _
      | exact laws_toStringS.mono _ _
      | exact spec_ConsistencyRoots.mono _ _ _ _ _
      | exact LeO.none _
      | refine LeO.ite ?_ ?_
      | refine LeO.bind ?_ (fun _ => ?_)
set_option maxHeartbeats 8000000 in
set_option maxRecDepth 100000 in
theorem laws_FnExactConsistencyRoots.calls (k : Nat) (a0 : Int) (a1 : Int) (a2 : ByteArray) (A3 : Option Addr) (c3 : Nat) (l3 : List ByteArray) (r : Bool) (w : World) (hr3 : Kd.C Kd.string w A3 l3.length l3) (hc3 : l3.length ≤ c3) (h : laws_FnExactConsistencyRoots.f k a0 a1 a2 l3 = some r) :
    Calls Try.prog 10 #[.int .i64 a0, .int .i64 a1, .string a2, .slice A3 l3.length c3] w fun e w' => e = .returned (.bool r) ∧ Below w.heap.size w w' := by
  have HR3 := Aside0.mk hr3
  have HC3 := Aside0.mk hc3
  clear hr3 hc3
  have HB := Aside0.mk (Below.refl w.heap.size w)
  have H : (if (a2.size : Int) > 1048576 then (some true) else ((laws_szStringS.f k l3 1048576).bind fun t152 => (if t152 < 0 then (some true) else ((laws_toStringS.f k l3).bind fun t153 => ((spec_ConsistencyRoots.f k a0 a1 a2 t153).bind fun bt156 => ((laws_toStringS.f k l3).bind fun t159 => ((impl_ConsistencyRoots.f k a0 a1 a2 t159).bind fun bt162 => (if bt162.1.toList = bt156.1.toList then (if bt162.2.1.toList = bt156.2.1.toList then (laws_FnExactConsistencyRoots.j0 k l3 t159 (bt162.2.2 != bt156.2.2)) else (laws_FnExactConsistencyRoots.j0 k l3 t159 true)) else (laws_FnExactConsistencyRoots.j0 k l3 t159 true))))))))) = some r := h
  clear h
  by_cases c5 : (a2.size : Int) > 1048576
  · rw [if_pos c5] at H
    have c5b0 : decide (1048576 < (a2.size : Int)) = true := decide_eq_true c5
    have c5b1 : decide (1048576 < a2.size) = true := decide_eq_true (by omega)
    clear c5
    obtain rfl := Option.some.inj H
    go_enter Try.func10, Try.ntmps10
    go_wp2
    go_ret
    exact ⟨by first | rfl | (simp [errW_none, errW_some] <;> rfl) | (simp [*, errW_none, errW_some] <;> rfl), by repeat (first | (with_reducible first | exact HB.out | apply below_alloc | apply pw_below_drewN | apply below_drew1) | exact HB.out)⟩
  · rw [if_neg c5] at H
    have c5b0 : decide (1048576 < (a2.size : Int)) = false := decide_eq_false c5
    have c5b1 : decide (1048576 < a2.size) = false := decide_eq_false (by omega)
    clear c5
    replace H := Option.bind_eq_some_iff.mp H
    obtain ⟨t152, A60, H⟩ := H
    replace H : (if t152 < 0 then (some true) else ((laws_toStringS.f k l3).bind fun t153 => ((spec_ConsistencyRoots.f k a0 a1 a2 t153).bind fun bt156 => ((laws_toStringS.f k l3).bind fun t159 => ((impl_ConsistencyRoots.f k a0 a1 a2 t159).bind fun bt162 => (if bt162.1.toList = bt156.1.toList then (if bt162.2.1.toList = bt156.2.1.toList then (laws_FnExactConsistencyRoots.j0 k l3 t159 (bt162.2.2 != bt156.2.2)) else (laws_FnExactConsistencyRoots.j0 k l3 t159 true)) else (laws_FnExactConsistencyRoots.j0 k l3 t159 true))))))) = some r := H
    have A6 := Aside0.mk A60
    clear A60
    by_cases c7 : t152 < 0
    · rw [if_pos c7] at H
      have c7b0 : decide (t152 < 0) = true := decide_eq_true c7
      clear c7
      obtain rfl := Option.some.inj H
      go_enter Try.func10, Try.ntmps10
      go_wp2_with (first | ((with_reducible refine gate_callee (f := 23) rfl ?_); refine goesL_ (some 22) rfl rfl Try.func23 (by kernel_rfl) rfl #[.slice A3 l3.length c3, .int .i64 1048576] rfl (by (try simp only [List.map_toArray, List.map_cons, List.map_nil]); first | done | rfl | (simp only [List.length_drop, List.length_take]; rfl)) ?_; (with_reducible refine (laws_szStringS.calls k _ _ l3 1048576 t152 _ ?side1 ?side2 A6.out).mono ?_); (case side1 => repeat (first | exact HR3.out | (with_reducible refine Kd.C_alloc ?_ _) | (with_reducible refine Kd.C_drewN ?_ _) | (with_reducible refine Kd.C_drew ?_))); (case side2 => exact HC3.out); rintro e w' ⟨rfl, ⟨nd, rfl⟩⟩; refine ⟨_, rfl, ?_⟩))
      go_ret
      exact ⟨by first | rfl | (simp [errW_none, errW_some] <;> rfl) | (simp [*, errW_none, errW_some] <;> rfl), by repeat (first | (with_reducible first | exact HB.out | apply below_alloc | apply pw_below_drewN | apply below_drew1) | exact HB.out)⟩
    · rw [if_neg c7] at H
      have c7b0 : decide (t152 < 0) = false := decide_eq_false c7
      clear c7
      replace H := Option.bind_eq_some_iff.mp H
      obtain ⟨t153, A80, H⟩ := H
      replace H : ((spec_ConsistencyRoots.f k a0 a1 a2 t153).bind fun bt156 => ((laws_toStringS.f k l3).bind fun t159 => ((impl_ConsistencyRoots.f k a0 a1 a2 t159).bind fun bt162 => (if bt162.1.toList = bt156.1.toList then (if bt162.2.1.toList = bt156.2.1.toList then (laws_FnExactConsistencyRoots.j0 k l3 t159 (bt162.2.2 != bt156.2.2)) else (laws_FnExactConsistencyRoots.j0 k l3 t159 true)) else (laws_FnExactConsistencyRoots.j0 k l3 t159 true))))) = some r := H
      have A8 := Aside0.mk A80
      clear A80
      replace H := Option.bind_eq_some_iff.mp H
      obtain ⟨⟨t156, t157, t158⟩, A90, H⟩ := H
      replace H : ((laws_toStringS.f k l3).bind fun t159 => ((impl_ConsistencyRoots.f k a0 a1 a2 t159).bind fun bt162 => (if bt162.1.toList = t156.toList then (if bt162.2.1.toList = t157.toList then (laws_FnExactConsistencyRoots.j0 k l3 t159 (bt162.2.2 != t158)) else (laws_FnExactConsistencyRoots.j0 k l3 t159 true)) else (laws_FnExactConsistencyRoots.j0 k l3 t159 true)))) = some r := H
      have A9 := Aside0.mk A90
      clear A90
      replace H := Option.bind_eq_some_iff.mp H
      obtain ⟨t159, A100, H⟩ := H
      replace H : ((impl_ConsistencyRoots.f k a0 a1 a2 t159).bind fun bt162 => (if bt162.1.toList = t156.toList then (if bt162.2.1.toList = t157.toList then (laws_FnExactConsistencyRoots.j0 k l3 t159 (bt162.2.2 != t158)) else (laws_FnExactConsistencyRoots.j0 k l3 t159 true)) else (laws_FnExactConsistencyRoots.j0 k l3 t159 true))) = some r := H
      have A10 := Aside0.mk A100
      clear A100
      replace H := Option.bind_eq_some_iff.mp H
      obtain ⟨⟨t162, t163, t164⟩, A110, H⟩ := H
      replace H : (if t162.toList = t156.toList then (if t163.toList = t157.toList then (laws_FnExactConsistencyRoots.j0 k l3 t159 (t164 != t158)) else (laws_FnExactConsistencyRoots.j0 k l3 t159 true)) else (laws_FnExactConsistencyRoots.j0 k l3 t159 true)) = some r := H
      have A11 := Aside0.mk A110
      clear A110
      have HC12 := Aside0.mk H
      clear H
      go_enter Try.func10, Try.ntmps10
      go_upto_region 10 with (first | ((with_reducible refine gate_callee (f := 23) rfl ?_); refine goesL_ (some 22) rfl rfl Try.func23 (by kernel_rfl) rfl #[.slice A3 l3.length c3, .int .i64 1048576] rfl (by (try simp only [List.map_toArray, List.map_cons, List.map_nil]); first | done | rfl | (simp only [List.length_drop, List.length_take]; rfl)) ?_; (with_reducible refine (laws_szStringS.calls k _ _ l3 1048576 t152 _ ?side1 ?side2 A6.out).mono ?_); (case side1 => repeat (first | exact HR3.out | (with_reducible refine Kd.C_alloc ?_ _) | (with_reducible refine Kd.C_drewN ?_ _) | (with_reducible refine Kd.C_drew ?_))); (case side2 => exact HC3.out); rintro e w' ⟨rfl, ⟨nd, rfl⟩⟩; refine ⟨_, rfl, ?_⟩) | ((with_reducible refine gate_callee (f := 25) rfl ?_); refine goesL_ (some 30) rfl rfl Try.func25 (by kernel_rfl) rfl #[.slice A3 l3.length c3] rfl (by (try simp only [List.map_toArray, List.map_cons, List.map_nil]); first | done | rfl | (simp only [List.length_drop, List.length_take]; rfl)) ?_; (with_reducible refine (laws_toStringS.calls k _ _ l3 t153 _ ?side1 ?side2 A8.out).mono ?_); (case side1 => repeat (first | exact HR3.out | (with_reducible refine Kd.C_alloc ?_ _) | (with_reducible refine Kd.C_drewN ?_ _) | (with_reducible refine Kd.C_drew ?_))); (case side2 => exact HC3.out); rintro e w13 ⟨v154, rfl, ho0, hb⟩; refine ⟨_, rfl, ?_⟩; have n0_ := Aside0.mk (Kd.R_lower ho0 (below_size (by repeat (first | (with_reducible first | exact HB.out | apply below_alloc | apply pw_below_drewN | apply below_drew1) | exact HB.out)))); have n1_ := Aside0.mk (below_step (by repeat (first | (with_reducible first | exact HB.out | apply below_alloc | apply pw_below_drewN | apply below_drew1) | exact HB.out)) hb); clear HB; have HO155 := n0_; have HB := n1_; clear n0_ n1_; (try clear hb); (try clear hb2); (try clear hk); (try clear hi); (try clear ho0); obtain ⟨Ao14, co14, eo14⟩ := Kd.R_slice HO155.out; subst eo14) | ((with_reducible refine gate_callee (f := 35) rfl ?_); refine goesL_ (some 31) rfl rfl Try.func35 (by kernel_rfl) rfl #[.int .i64 a0, .int .i64 a1, .string a2, .slice Ao14 t153.length co14] rfl (by (try simp only [List.map_toArray, List.map_cons, List.map_nil]); first | done | rfl | (simp only [List.length_drop, List.length_take]; rfl)) ?_; (with_reducible refine (spec_ConsistencyRoots.calls k a0 a1 a2 _ _ t153 t156 t157 t158 _ ?side1 ?side2 A9.out).mono ?_); (case side1 => repeat (first | exact (Kd.R_reads' HO155.out).2.2 | (with_reducible refine Kd.C_alloc ?_ _) | (with_reducible refine Kd.C_drewN ?_ _) | (with_reducible refine Kd.C_drew ?_))); (case side2 => exact (Kd.R_reads' HO155.out).2.1); rintro e w15 ⟨rfl, hb⟩; refine ⟨_, rfl, ?_⟩; have n0_ := Aside0.mk (Kd.R_below (by (with_reducible repeat (first | apply Kd.R_alloc | apply Kd.R_drewN | apply Kd.R_drew)); exact HO155.out) hb); have n1_ := Aside0.mk (below_step (by repeat (first | (with_reducible first | exact HB.out | apply below_alloc | apply pw_below_drewN | apply below_drew1) | exact HB.out)) hb); clear HO155; clear HB; have HO155 := n0_; have HB := n1_; clear n0_ n1_; (try clear hb); (try clear hb2); (try clear hk); (try clear hi)) | ((with_reducible refine gate_callee (f := 25) rfl ?_); refine goesL_ (some 36) rfl rfl Try.func25 (by kernel_rfl) rfl #[.slice A3 l3.length c3] rfl (by (try simp only [List.map_toArray, List.map_cons, List.map_nil]); first | done | rfl | (simp only [List.length_drop, List.length_take]; rfl)) ?_; (with_reducible refine (laws_toStringS.calls k _ _ l3 t159 _ ?side1 ?side2 A10.out).mono ?_); (case side1 => repeat (first | exact (Kd.C_below HR3.out HB.out) | (with_reducible refine Kd.C_alloc ?_ _) | (with_reducible refine Kd.C_drewN ?_ _) | (with_reducible refine Kd.C_drew ?_))); (case side2 => exact HC3.out); rintro e w16 ⟨v160, rfl, ho0, hb⟩; refine ⟨_, rfl, ?_⟩; have n0_ := Aside0.mk (Kd.R_elder' (by (with_reducible repeat (first | apply Kd.R_alloc | apply Kd.R_drewN | apply Kd.R_drew)); exact HO155.out) (Kd.R_base ho0) hb); have n1_ := Aside0.mk (Kd.R_lower (Kd.R_new' ho0 (Kd.R_lt (by (with_reducible repeat (first | apply Kd.R_alloc | apply Kd.R_drewN | apply Kd.R_drew)); exact HO155.out))) (below_size (by repeat (first | (with_reducible first | exact HB.out | apply below_alloc | apply pw_below_drewN | apply below_drew1) | exact HB.out)))); have n2_ := Aside0.mk (below_step (by repeat (first | (with_reducible first | exact HB.out | apply below_alloc | apply pw_below_drewN | apply below_drew1) | exact HB.out)) hb); clear HO155; clear HB; have HO155 := n0_; have HO161 := n1_; have HB := n2_; clear n0_ n1_ n2_; (try clear hb); (try clear hb2); (try clear hk); (try clear hi); (try clear ho0); obtain ⟨Ao17, co17, eo17⟩ := Kd.R_slice HO161.out; subst eo17) | ((with_reducible refine gate_callee (f := 36) rfl ?_); refine goesL_ (some 42) rfl rfl Try.func36 (by kernel_rfl) rfl #[.int .i64 a0, .int .i64 a1, .string a2, .slice Ao17 t159.length co17] rfl (by (try simp only [List.map_toArray, List.map_cons, List.map_nil]); first | done | rfl | (simp only [List.length_drop, List.length_take]; rfl)) ?_; (with_reducible refine (impl_ConsistencyRoots.calls k a0 a1 a2 _ _ t159 t162 t163 t164 _ ?side1 ?side2 A11.out).mono ?_); (case side1 => repeat (first | exact (Kd.R_reads' HO161.out).2.2 | (with_reducible refine Kd.C_alloc ?_ _) | (with_reducible refine Kd.C_drewN ?_ _) | (with_reducible refine Kd.C_drew ?_))); (case side2 => exact (Kd.R_reads' HO161.out).2.1); rintro e w18 ⟨rfl, hb⟩; refine ⟨_, rfl, ?_⟩; have n0_ := Aside0.mk (Kd.R_below (by (with_reducible repeat (first | apply Kd.R_alloc | apply Kd.R_drewN | apply Kd.R_drew)); exact HO155.out) hb); have n1_ := Aside0.mk (Kd.R_below (by (with_reducible repeat (first | apply Kd.R_alloc | apply Kd.R_drewN | apply Kd.R_drew)); exact HO161.out) hb); have n2_ := Aside0.mk (below_step (by repeat (first | (with_reducible first | exact HB.out | apply below_alloc | apply pw_below_drewN | apply below_drew1) | exact HB.out)) hb); clear HO155; clear HO161; clear HB; have HO155 := n0_; have HO161 := n1_; have HB := n2_; clear n0_ n1_ n2_; (try clear hb); (try clear hb2); (try clear hk); (try clear hi)))
      (try simp only [Act.put, List.setIfInBounds_toArray, List.set_cons_zero, List.set_cons_succ])
      go_cut [58] (fun v58 wc => ∃ (kq : Nat) (x58_11 : Bool), v58 = .bool x58_11 ∧ Aside0 (laws_FnExactConsistencyRoots.j0 kq l3 t159 x58_11 = some r) ∧ Aside0 (kq ≤ k) ∧ Aside0 (Kd.R Kd.string 9 wc w.heap.size (fun _ => True) (.slice Ao17 t159.length co17) t159) ∧ Aside0 (Below w.heap.size w wc))
      case first =>
        have H := HC12.out
        clear HC12
        by_cases c19 : t162.toList = t156.toList
        · rw [if_pos c19] at H
          have c19b0 : (t162.toList == t156.toList) = true := beq_iff_eq.mpr c19
          have c19b1 : (t162.toList != t156.toList) = false := bne_eq_false_iff_eq.mpr c19
          clear c19
          (first | rw [c19b0] | (simp only [i64_w, i32_w]; rw [c19b0]) | skip)
          by_cases c20 : t163.toList = t157.toList
          · rw [if_pos c20] at H
            have c20b0 : (t163.toList == t157.toList) = true := beq_iff_eq.mpr c20
            have c20b1 : (t163.toList != t157.toList) = false := bne_eq_false_iff_eq.mpr c20
            clear c20
            have H' := Aside0.mk H
            clear H
            go_wp2
            go_meet
            case rel => exact ⟨_, ((t164 != t158)), (by first | rfl | (simp; done) | (simp [*]; done)), H', ⟨by first | omega | exact Nat.le_refl _⟩, ⟨by (with_reducible repeat (first | apply Kd.R_alloc | apply Kd.R_drewN | apply Kd.R_drew)); exact Kd.R_mono HO161.out (fun _ hk => trivial)⟩, ⟨by repeat (first | (with_reducible first | exact HB.out | apply below_alloc | apply pw_below_drewN | apply below_drew1) | exact HB.out)⟩⟩
          · rw [if_neg c20] at H
            have c20b0 : (t163.toList == t157.toList) = false := beq_eq_false_iff_ne.mpr c20
            have c20b1 : (t163.toList != t157.toList) = true := bne_iff_ne.mpr c20
            have H' := Aside0.mk H
            clear H
            go_wp2
            go_meet
            case rel => exact ⟨_, (true), (by first | rfl | (simp; done) | (simp [*]; done)), H', ⟨by first | omega | exact Nat.le_refl _⟩, ⟨by (with_reducible repeat (first | apply Kd.R_alloc | apply Kd.R_drewN | apply Kd.R_drew)); exact Kd.R_mono HO161.out (fun _ hk => trivial)⟩, ⟨by repeat (first | (with_reducible first | exact HB.out | apply below_alloc | apply pw_below_drewN | apply below_drew1) | exact HB.out)⟩⟩
        · rw [if_neg c19] at H
          have c19b0 : (t162.toList == t156.toList) = false := beq_eq_false_iff_ne.mpr c19
          have c19b1 : (t162.toList != t156.toList) = true := bne_iff_ne.mpr c19
          (first | rw [c19b0] | (simp only [i64_w, i32_w]; rw [c19b0]) | skip)
          have H' := Aside0.mk H
          clear H
          go_wp2
          go_meet
          case rel => exact ⟨_, (true), (by first | rfl | (simp; done) | (simp [*]; done)), H', ⟨by first | omega | exact Nat.le_refl _⟩, ⟨by (with_reducible repeat (first | apply Kd.R_alloc | apply Kd.R_drewN | apply Kd.R_drew)); exact Kd.R_mono HO161.out (fun _ hk => trivial)⟩, ⟨by repeat (first | (with_reducible first | exact HB.out | apply below_alloc | apply pw_below_drewN | apply below_drew1) | exact HB.out)⟩⟩
      case rest =>
        clear HC12
        try clear c1
        try clear c2
        try clear p2
        try clear c3
        try clear c5
        try clear c5b0
        try clear c5b1
        try clear c7
        try clear c7b0
        try clear c10
        try clear c19
        try clear c19b0
        try clear c19b1
        try clear c20
        try clear c20b0
        try clear c20b1
        obtain ⟨kq, x58_11, rfl, HA, HJ11, HO_13, HB⟩ := hcut
        cases kq with
        | zero => exact absurd HA.out (by simp [laws_FnExactConsistencyRoots.j0])
        | succ kj11 =>
          have H := HA.out
          clear HA
          simp only [laws_FnExactConsistencyRoots.j0] at H
          by_cases c21 : x58_11 = true
          · subst c21
            have H1 : (some false) = some r := by rw [if_pos rfl] at H; exact H
            clear H
            have H := H1
            clear H1
            obtain rfl := Option.some.inj H
            go_wp2
            go_ret
            exact ⟨by first | rfl | (simp [errW_none, errW_some] <;> rfl) | (simp [*, errW_none, errW_some] <;> rfl), by repeat (first | (with_reducible first | exact HB.out | apply below_alloc | apply pw_below_drewN | apply below_drew1) | exact HB.out)⟩
          · replace c21 := Bool.eq_false_iff.mpr c21
            subst c21
            have H1 : ((laws_toStringS.f kj11 l3).bind fun t165 => ((laws_eqStringS.f kj11 t159 t165).bind fun t168 => (if t168 = true then (some true) else (some false)))) = some r := by rw [if_neg (show ¬ (false = true) by decide)] at H; exact H
            clear H
            have H := H1
            clear H1
            replace H := Option.bind_eq_some_iff.mp H
            obtain ⟨t165, A220, H⟩ := H
            replace H : ((laws_eqStringS.f kj11 t159 t165).bind fun t168 => (if t168 = true then (some true) else (some false))) = some r := H
            have A22 := Aside0.mk A220
            clear A220
            replace H := Option.bind_eq_some_iff.mp H
            obtain ⟨t168, A230, H⟩ := H
            replace H : (if t168 = true then (some true) else (some false)) = some r := H
            have A23 := Aside0.mk A230
            clear A230
            by_cases c24 : t168 = true
            · subst c24
              have H1 : (some true) = some r := by rw [if_pos rfl] at H; exact H
              clear H
              have H := H1
              clear H1
              obtain rfl := Option.some.inj H
              go_wp2_with (first | ((with_reducible refine gate_callee (f := 25) rfl ?_); refine goesL_ (some 61) rfl rfl Try.func25 (by kernel_rfl) rfl #[.slice A3 l3.length c3] rfl (by (try simp only [List.map_toArray, List.map_cons, List.map_nil]); first | done | rfl | (simp only [List.length_drop, List.length_take]; rfl)) ?_; (with_reducible refine (laws_toStringS.calls kj11 _ _ l3 t165 _ ?side1 ?side2 A22.out).mono ?_); (case side1 => repeat (first | exact (Kd.C_below HR3.out HB.out) | (with_reducible refine Kd.C_alloc ?_ _) | (with_reducible refine Kd.C_drewN ?_ _) | (with_reducible refine Kd.C_drew ?_))); (case side2 => exact HC3.out); rintro e w25 ⟨v166, rfl, ho0, hb⟩; refine ⟨_, rfl, ?_⟩; have n0_ := Aside0.mk (Kd.R_elder' (by (with_reducible repeat (first | apply Kd.R_alloc | apply Kd.R_drewN | apply Kd.R_drew)); exact HO_13.out) (Kd.R_base ho0) hb); have n1_ := Aside0.mk (Kd.R_lower (Kd.R_new' ho0 (Kd.R_lt (by (with_reducible repeat (first | apply Kd.R_alloc | apply Kd.R_drewN | apply Kd.R_drew)); exact HO_13.out))) (below_size (by repeat (first | (with_reducible first | exact HB.out | apply below_alloc | apply pw_below_drewN | apply below_drew1) | exact HB.out)))); have n2_ := Aside0.mk (below_step (by repeat (first | (with_reducible first | exact HB.out | apply below_alloc | apply pw_below_drewN | apply below_drew1) | exact HB.out)) hb); clear HO_13; clear HB; have HO_13 := n0_; have HO167 := n1_; have HB := n2_; clear n0_ n1_ n2_; (try clear hb); (try clear hb2); (try clear hk); (try clear hi); (try clear ho0); obtain ⟨Ao26, co26, eo26⟩ := Kd.R_slice HO167.out; subst eo26) | ((with_reducible refine gate_callee (f := 27) rfl ?_); refine goesL_ (some 62) rfl rfl Try.func27 (by kernel_rfl) rfl #[.slice Ao17 t159.length co17, .slice Ao26 t165.length co26] rfl (by (try simp only [List.map_toArray, List.map_cons, List.map_nil]); first | done | rfl | (simp only [List.length_drop, List.length_take]; rfl)) ?_; (with_reducible refine (laws_eqStringS.calls kj11 _ _ t159 _ _ t165 true _ ?side1 ?side2 ?side3 ?side4 A23.out).mono ?_); (case side1 => repeat (first | exact (Kd.R_reads' HO_13.out).2.2 | (with_reducible refine Kd.C_alloc ?_ _) | (with_reducible refine Kd.C_drewN ?_ _) | (with_reducible refine Kd.C_drew ?_))); (case side2 => exact (Kd.R_reads' HO_13.out).2.1); (case side3 => repeat (first | exact (Kd.R_reads' HO167.out).2.2 | (with_reducible refine Kd.C_alloc ?_ _) | (with_reducible refine Kd.C_drewN ?_ _) | (with_reducible refine Kd.C_drew ?_))); (case side4 => exact (Kd.R_reads' HO167.out).2.1); rintro e w' ⟨rfl, ⟨nd, rfl⟩⟩; refine ⟨_, rfl, ?_⟩))
              go_ret
              exact ⟨by first | rfl | (simp [errW_none, errW_some] <;> rfl) | (simp [*, errW_none, errW_some] <;> rfl), by repeat (first | (with_reducible first | exact HB.out | apply below_alloc | apply pw_below_drewN | apply below_drew1) | exact HB.out)⟩
            · replace c24 := Bool.eq_false_iff.mpr c24
              subst c24
              have H1 : (some false) = some r := by rw [if_neg (show ¬ (false = true) by decide)] at H; exact H
              clear H
              have H := H1
              clear H1
              obtain rfl := Option.some.inj H
              go_wp2_with (first | ((with_reducible refine gate_callee (f := 25) rfl ?_); refine goesL_ (some 61) rfl rfl Try.func25 (by kernel_rfl) rfl #[.slice A3 l3.length c3] rfl (by (try simp only [List.map_toArray, List.map_cons, List.map_nil]); first | done | rfl | (simp only [List.length_drop, List.length_take]; rfl)) ?_; (with_reducible refine (laws_toStringS.calls kj11 _ _ l3 t165 _ ?side1 ?side2 A22.out).mono ?_); (case side1 => repeat (first | exact (Kd.C_below HR3.out HB.out) | (with_reducible refine Kd.C_alloc ?_ _) | (with_reducible refine Kd.C_drewN ?_ _) | (with_reducible refine Kd.C_drew ?_))); (case side2 => exact HC3.out); rintro e w27 ⟨v166, rfl, ho0, hb⟩; refine ⟨_, rfl, ?_⟩; have n0_ := Aside0.mk (Kd.R_elder' (by (with_reducible repeat (first | apply Kd.R_alloc | apply Kd.R_drewN | apply Kd.R_drew)); exact HO_13.out) (Kd.R_base ho0) hb); have n1_ := Aside0.mk (Kd.R_lower (Kd.R_new' ho0 (Kd.R_lt (by (with_reducible repeat (first | apply Kd.R_alloc | apply Kd.R_drewN | apply Kd.R_drew)); exact HO_13.out))) (below_size (by repeat (first | (with_reducible first | exact HB.out | apply below_alloc | apply pw_below_drewN | apply below_drew1) | exact HB.out)))); have n2_ := Aside0.mk (below_step (by repeat (first | (with_reducible first | exact HB.out | apply below_alloc | apply pw_below_drewN | apply below_drew1) | exact HB.out)) hb); clear HO_13; clear HB; have HO_13 := n0_; have HO167 := n1_; have HB := n2_; clear n0_ n1_ n2_; (try clear hb); (try clear hb2); (try clear hk); (try clear hi); (try clear ho0); obtain ⟨Ao28, co28, eo28⟩ := Kd.R_slice HO167.out; subst eo28) | ((with_reducible refine gate_callee (f := 27) rfl ?_); refine goesL_ (some 62) rfl rfl Try.func27 (by kernel_rfl) rfl #[.slice Ao17 t159.length co17, .slice Ao28 t165.length co28] rfl (by (try simp only [List.map_toArray, List.map_cons, List.map_nil]); first | done | rfl | (simp only [List.length_drop, List.length_take]; rfl)) ?_; (with_reducible refine (laws_eqStringS.calls kj11 _ _ t159 _ _ t165 false _ ?side1 ?side2 ?side3 ?side4 A23.out).mono ?_); (case side1 => repeat (first | exact (Kd.R_reads' HO_13.out).2.2 | (with_reducible refine Kd.C_alloc ?_ _) | (with_reducible refine Kd.C_drewN ?_ _) | (with_reducible refine Kd.C_drew ?_))); (case side2 => exact (Kd.R_reads' HO_13.out).2.1); (case side3 => repeat (first | exact (Kd.R_reads' HO167.out).2.2 | (with_reducible refine Kd.C_alloc ?_ _) | (with_reducible refine Kd.C_drewN ?_ _) | (with_reducible refine Kd.C_drew ?_))); (case side4 => exact (Kd.R_reads' HO167.out).2.1); rintro e w' ⟨rfl, ⟨nd, rfl⟩⟩; refine ⟨_, rfl, ?_⟩))
              go_ret
              exact ⟨by first | rfl | (simp [errW_none, errW_some] <;> rfl) | (simp [*, errW_none, errW_some] <;> rfl), by repeat (first | (with_reducible first | exact HB.out | apply below_alloc | apply pw_below_drewN | apply below_drew1) | exact HB.out)⟩

end Go.Proofs.Ytpoaapedcmfcfaa.PFnExactConsistencyRoots
