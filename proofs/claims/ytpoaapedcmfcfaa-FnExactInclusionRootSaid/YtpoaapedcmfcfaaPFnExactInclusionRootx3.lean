/- Written by a program (a session's own form of the print): plain functions with the answers of the Go functions, and the walks that show it. Lean checks it. -/
import Derived.Test.YtpoaapedcmfcfaaPFnExactInclusionRootx0
import Derived.Test.YtpoaapedcmfcfaaPFnExactInclusionRootx1
import Derived.Test.YtpoaapedcmfcfaaPFnExactInclusionRootx2
namespace Go.Proofs.Ytpoaapedcmfcfaa.PFnExactInclusionRoot
open Go.RowKit Go.Proofs.YtpoaapedcmfcfaaW.PrintWords Go.Proofs.YtpoaapedcmfcfaaW.PrintLast Go.Proofs.YtpoaapedcmfcfaaW.PrintMore
attribute [local go_sem] max2_int min2_int max_two min_two max_three min_three max_four min_four   -- for this text's walks alone
set_option linter.unusedVariables false
set_option linter.unusedSimpArgs false

/-! ### impl_inclusionRoot: function 72: by hand -/
-- IMPORT Mk
-- IMPORT U
/-- What stands behind a prover: the hashes that are left, whether one lacked, and what was hashed. -/
structure impl_inclusionRoot.PS (w0 w : World) (bp : Nat) (xs : List ByteArray) (b : Bool) (st : List ByteArray) : Prop where
  low : Below bp w0 w
  base : w0.heap.size ≤ bp
  ex : ∃ A c v, w.cell? ⟨bp, 0, none⟩ = some (.slice A xs.length c) ∧ w.cell? ⟨bp, 1, none⟩ = some (.bool b) ∧ w.cell? ⟨bp, 2, none⟩ = some v ∧ (w.frozen? ⟨bp, 0, none⟩ = false ∧ w.frozen? ⟨bp, 1, none⟩ = false ∧ w.frozen? ⟨bp, 2, none⟩ = false) ∧ xs.length ≤ c ∧
    ReadsOf Value.string ByteArray.empty w0 A xs.length xs ∧ w.ownsRow (bp + 1) 9 1 v st.length (pw_strs st)
theorem impl_inclusionRoot.PS.step {w0 w w' : World} {bp : Nat} {xs st : List ByteArray} {b : Bool} (h : impl_inclusionRoot.PS w0 w bp xs b st) (hb : Below w.heap.size w w') : impl_inclusionRoot.PS w0 w' bp xs b st := by
  obtain ⟨A, c, v, h0, h1, h2, ⟨f0, f1, f2⟩, h4, h5, h6⟩ := h.ex
  have hlt : bp < w.heap.size := World.block_lt_of_cell? w _ h0
  exact ⟨h.low.trans (hb.mono (Nat.le_of_lt hlt)), h.base, A, c, v, (hb.cell (p := ⟨bp, 0, none⟩) hlt).trans h0, (hb.cell (p := ⟨bp, 1, none⟩) hlt).trans h1, (hb.cell (p := ⟨bp, 2, none⟩) hlt).trans h2, ⟨(hb.frozen (p := ⟨bp, 0, none⟩) hlt).trans f0, (hb.frozen (p := ⟨bp, 1, none⟩) hlt).trans f1, (hb.frozen (p := ⟨bp, 2, none⟩) hlt).trans f2⟩, h4, h5, pw_own_below h6 hb⟩
theorem impl_inclusionRoot.own_set {w : World} {bp j n : Nat} {v u : Value} {xs : List Value} {e : TypeId} (h : w.ownsRow (bp + 1) e 1 v n xs) : (w.setCell ⟨bp, j, none⟩ u).ownsRow (bp + 1) e 1 v n xs :=
  own_move h (fun k hk => Below.heap_setCell w ⟨bp, j, none⟩ u k (by have := own_base h k hk; show k ≠ bp; omega))
set_option maxHeartbeats 1000000 in
set_option maxRecDepth 100000 in
theorem impl_inclusionRoot.next (w0 w : World) (bp : Nat) (xs st : List ByteArray) (b : Bool) (h : impl_inclusionRoot.PS w0 w bp xs b st) :
    Calls Try.prog 108 #[.pointer (some ⟨bp, 0, none⟩)] w fun e w' => e = .returned (.string (Go.Proofs.Ytpoaapedcmfcfaa.Mk.nextP xs b).1) ∧ impl_inclusionRoot.PS w0 w' bp (Go.Proofs.Ytpoaapedcmfcfaa.Mk.nextP xs b).2.1 (Go.Proofs.Ytpoaapedcmfcfaa.Mk.nextP xs b).2.2 st := by
  obtain ⟨A, c, v, h0, h1, h2, ⟨f0, f1, f2⟩, h4, h5, h6⟩ := h.ex
  have HP := Aside0.mk h
  have HO := Aside0.mk h6
  have HR := Aside0.mk h5
  clear h h5 h6
  cases xs with
  | nil =>
    go_enter Try.func108, Try.ntmps108
    go_wp2
    go_ret
    refine ⟨rfl, ?_⟩
    have hb : Below bp w0 (w.setCell ⟨bp, 1, none⟩ (.bool true)) := HP.out.low.setCell (p := ⟨bp, 1, none⟩) (Nat.le_refl _) _
    refine ⟨hb, HP.out.base, A, c, v, ?_, ?_, ?_, ⟨?_, ?_, ?_⟩, h4, HR.out, impl_inclusionRoot.own_set HO.out⟩
    · rw [World.cell?_setCell_other _ _ _ _ (by simp)]; exact h0
    · rw [World.cell?_setCell_same _ _ _ h1]; rfl
    · rw [World.cell?_setCell_other _ _ _ _ (by simp)]; exact h2
    · rw [World.frozen?_setCell]; exact f0
    · rw [World.frozen?_setCell]; exact f1
    · rw [World.frozen?_setCell]; exact f2
  | cons x t =>
    obtain ⟨ad, e0, hx0⟩ := HR.out.at_ 0 (by omega) (by simp)
    subst e0
    replace hx0 := (HP.out.low.cell (Nat.lt_of_lt_of_le (World.block_lt_of_cell? w0 _ hx0) HP.out.base)).trans hx0
    have hx1 : w.cell? ad = some (.string x) := by
      have e : ad.add (0 : Int).toNat = ad := by unfold Addr.add; split <;> simp_all
      rw [e] at hx0
      exact hx0
    clear hx0
    obtain ⟨i0, hi0, _, hz0, _⟩ := info_parts info9
    obtain ⟨A', hcut, hcr⟩ := print_cut_of (P := Try.prog) Value.string ByteArray.empty 32 9 .i64 Try.underlying32 hi0 hz0 (some ad) (x :: t).length c 1 (by simp)
    have HR2 : Aside0 (ReadsOf Value.string ByteArray.empty w0 A' ((x :: t).length - 1) t) := ⟨hcr w0 (x :: t) h4 HR.out⟩
    have hcut' : ∀ W : World, (Instr.slice 32 (.slice (some ad) (t.length + 1) c) (some (.int .i64 1)) none none).run Try.prog W = .ok (.slice A' t.length (c - 1)) W := fun W => hcut W
    clear hcr hi0 hz0 hcut
    go_enter Try.func108, Try.ntmps108
    go_wp2
    go_ret
    refine ⟨rfl, ?_⟩
    have hb : Below bp w0 (w.setCell ⟨bp, 0, none⟩ (.slice A' t.length (c - 1))) := HP.out.low.setCell (p := ⟨bp, 0, none⟩) (Nat.le_refl _) _
    refine ⟨hb, HP.out.base, A', c - 1, v, ?_, ?_, ?_, ⟨?_, ?_, ?_⟩, ?_, HR2.out, impl_inclusionRoot.own_set HO.out⟩
    · rw [World.cell?_setCell_same _ _ _ h0]; rfl
    · rw [World.cell?_setCell_other _ _ _ _ (by simp)]; exact h1
    · rw [World.cell?_setCell_other _ _ _ _ (by simp)]; exact h2
    · rw [World.frozen?_setCell]; exact f0
    · rw [World.frozen?_setCell]; exact f1
    · rw [World.frozen?_setCell]; exact f2
    · simp only [List.length_cons] at h4
      show t.length ≤ c - 1
      omega
set_option maxHeartbeats 1000000 in
set_option maxRecDepth 100000 in
theorem impl_inclusionRoot.node (w0 w : World) (bp : Nat) (xs st : List ByteArray) (b : Bool) (l r : ByteArray) (h : impl_inclusionRoot.PS w0 w bp xs b st) (hl : l.size ≤ 100000000) (hr : r.size ≤ 100000000) (hst : st.length ≤ 1000000) :
    Calls Try.prog 107 #[.pointer (some ⟨bp, 0, none⟩), .string l, .string r] w fun e w' => e = .returned (.string (Go.Proofs.Ytpoaapedcmfcfaa.Mk.nodeOf l r)) ∧ impl_inclusionRoot.PS w0 w' bp xs b (st ++ [(⟨#[1]⟩ : ByteArray) ++ l ++ r]) := by
  obtain ⟨A, c, v, h0, h1, h2, ⟨f0, f1, f2⟩, h4, h5, h6⟩ := h.ex
  have HP := Aside0.mk h
  have HO := Aside0.mk h6
  have HR := Aside0.mk h5
  have HN : Aside0 (∀ w, Calls Try.prog 55 #[.string l, .string r] w fun e w' => e = .returned (.string (Go.Proofs.Ytpoaapedcmfcfaa.Mk.nodeOf l r)) ∧ Below w.heap.size w w') := ⟨fun w => impl_nodeHash.calls l r _ w (by
    unfold impl_nodeHash.f impl_hash.f
    rw [if_pos (by omega), if_pos (by omega), if_pos (by rw [ByteArray.size_append, ByteArray.size_append]; show 1 + _ + _ ≤ _; omega)]
    rfl)⟩
  have HS := Aside0.mk (And.intro hst (And.intro hl hr))
  clear h h5 h6 hst
  go_enter Try.func107, Try.ntmps107
  have hlt : bp < w.heap.size := World.block_lt_of_cell? w _ h0
  have HLT := Aside0.mk hlt
  clear hlt
  go_wp2_with (first
    | ((with_reducible refine gate_builtin (b := .append) (xs := #[.tmp 11, .tmp 16]) rfl ?_); at_builtin; refine print_append (w0 := w) (bp + 1) rfl (.tmp 11) (.tmp 16) 32 9 (.string ⟨#[]⟩) 16 rfl Try.underlying32 info9 rfl (by decide) v (pw_strs st) (.string ((⟨#[1]⟩ : ByteArray) ++ l ++ r)) rfl rfl rfl (by rw [show (pw_strs st).length = st.length by simp [pw_strs]]; exact HO.out) (Below.refl _ _) HLT.out (by rw [show (pw_strs st).length = st.length by simp [pw_strs]]; have := HS.out; omega) ?_; intro v1 w1 hown hB hg hat; obtain ⟨A1, c1, rfl⟩ := own_slice hown; have k0 := (hB.cell (p := ⟨bp, 0, none⟩) (Nat.lt_succ_self bp)).trans h0; have k1 := (hB.cell (p := ⟨bp, 1, none⟩) (Nat.lt_succ_self bp)).trans h1; have k2 := (hB.cell (p := ⟨bp, 2, none⟩) (Nat.lt_succ_self bp)).trans h2; have g0 := (hB.frozen (p := ⟨bp, 0, none⟩) (Nat.lt_succ_self bp)).trans f0; have g1 := (hB.frozen (p := ⟨bp, 1, none⟩) (Nat.lt_succ_self bp)).trans f1; have g2 := (hB.frozen (p := ⟨bp, 2, none⟩) (Nat.lt_succ_self bp)).trans f2; have HB1 := Aside0.mk hB; have HO1 := Aside0.mk hown; clear hown hB hg hat h0 h1 h2 f0 f1 f2)
    | (go_at_call 55; refine (HN.out _).mono ?_; rintro e w2 ⟨rfl, hb2⟩; have HB2 := Aside0.mk hb2; clear hb2))
  go_ret
  refine ⟨rfl, impl_inclusionRoot.PS.step ?_ HB2.out⟩
  refine ⟨(HP.out.low.trans (HB1.out.mono (Nat.le_succ bp))).setCell (p := ⟨bp, 2, none⟩) (Nat.le_refl _) _, HP.out.base, A, c, .slice A1 ((pw_strs st).length + 1) c1, ?_, ?_, ?_, ⟨?_, ?_, ?_⟩, h4, HR.out, impl_inclusionRoot.own_set ?_⟩
  · rw [World.cell?_setCell_other _ _ _ _ (by simp)]; exact k0
  · rw [World.cell?_setCell_other _ _ _ _ (by simp)]; exact k1
  · rw [World.cell?_setCell_same _ _ _ k2]
  · rw [World.frozen?_setCell]; exact g0
  · rw [World.frozen?_setCell]; exact g1
  · rw [World.frozen?_setCell]; exact g2
  · have := HO1.out
    have e1 : pw_strs (st ++ [(⟨#[1]⟩ : ByteArray) ++ l ++ r]) = pw_strs st ++ [Value.string ((⟨#[1]⟩ : ByteArray) ++ l ++ r)] := by simp [pw_strs]
    have e2 : (pw_strs st ++ [Value.string ((⟨#[1]⟩ : ByteArray) ++ l ++ r)]).length = (pw_strs st).length + 1 := by simp
    have e3 : (st ++ [(⟨#[1]⟩ : ByteArray) ++ l ++ r]).length = (pw_strs st).length + 1 := by simp [pw_strs]
    rw [e2] at this
    rw [e1, e3]
    exact this
theorem impl_inclusionRoot.split_from (f : Nat) : ∀ (n x : Nat), n ≤ 1000000 → 1 ≤ x → x ≤ 1000000 → n - x ≤ f → ∃ k, impl_split.l0 k (n : Int) (x : Int) = some ((Go.Proofs.Ytpoaapedcmfcfaa.Mk.halfGo f n x : Nat) : Int) := by
  induction f with
  | zero =>
    intro n x hn h1 h2 hf
    refine ⟨1, ?_⟩
    have w1 : wrap64 (2 * (x : Int)) = 2 * (x : Int) := Go.Proofs.Ytpoaapedcmfcfaa.U.wrap_in (by omega) (by omega)
    simp only [impl_split.l0, w1]
    rw [if_neg (by omega)]
    rfl
  | succ f ih =>
    intro n x hn h1 h2 hf
    have w1 : wrap64 (2 * (x : Int)) = 2 * (x : Int) := Go.Proofs.Ytpoaapedcmfcfaa.U.wrap_in (by omega) (by omega)
    have w2 : wrap64 ((x : Int) * 2) = ((2 * x : Nat) : Int) := (Go.Proofs.Ytpoaapedcmfcfaa.U.wrap_in (by omega) (by omega)).trans (by omega)
    by_cases h : 2 * x < n
    · obtain ⟨k, hk⟩ := ih n (2 * x) hn (by omega) (by omega) (by omega)
      refine ⟨k + 1, ?_⟩
      simp only [impl_split.l0, w1, w2]
      rw [if_pos (by clear w1 w2; omega), hk, Go.Proofs.Ytpoaapedcmfcfaa.Mk.halfGo, if_pos h]
    · refine ⟨1, ?_⟩
      simp only [impl_split.l0, w1]
      rw [if_neg (by clear w1 w2; omega), Go.Proofs.Ytpoaapedcmfcfaa.Mk.halfGo, if_neg h]
theorem impl_inclusionRoot.split (n : Nat) (hn : n ≤ 1000000) (w : World) : Calls Try.prog 93 #[.int .i64 (n : Int)] w fun e w' => e = .returned (.int .i64 ((Go.Proofs.Ytpoaapedcmfcfaa.Mk.halfN n : Nat) : Int)) ∧ Below w.heap.size w w' := by
  obtain ⟨k, hk⟩ := impl_inclusionRoot.split_from n n 1 hn (by omega) (by omega) (by omega)
  exact (impl_split.calls k (n : Int) _ w hk).mono fun e w' h => ⟨h.1, Drawn0.below h.2⟩
set_option maxHeartbeats 2000000 in
set_option maxRecDepth 100000 in
theorem impl_inclusionRoot.incl (w0 : World) (bp : Nat) (leaf : ByteArray) (hl : leaf.size ≤ 100000000) (m : Nat) : ∀ (i n : Nat) (xs st : List ByteArray) (b : Bool) (w : World), n ≤ m → n ≤ 100000 → i ≤ 100000 → st.length + n ≤ 1000000 → Go.Proofs.Ytpoaapedcmfcfaa.Mk.BS xs → impl_inclusionRoot.PS w0 w bp xs b st →
    Calls Try.prog 95 #[.pointer (some ⟨bp, 0, none⟩), .string leaf, .int .i64 (i : Int), .int .i64 (n : Int)] w fun e w' => e = .returned (.string (Go.Proofs.Ytpoaapedcmfcfaa.Mk.inclP leaf i n xs b st).1) ∧
      impl_inclusionRoot.PS w0 w' bp (Go.Proofs.Ytpoaapedcmfcfaa.Mk.inclP leaf i n xs b st).2.1 (Go.Proofs.Ytpoaapedcmfcfaa.Mk.inclP leaf i n xs b st).2.2.1 (Go.Proofs.Ytpoaapedcmfcfaa.Mk.inclP leaf i n xs b st).2.2.2 := by
  induction m with
  | zero =>
    intro i n xs st b w hm _ _ _ _ hP
    rw [Go.Proofs.Ytpoaapedcmfcfaa.Mk.inclP_one _ _ _ _ _ _ (by omega)]
    have HP := Aside0.mk hP
    have h1 : (n : Int) ≤ 1 := by omega
    clear hP hm
    go_enter Try.func95, Try.ntmps95
    go_wp2_with fail
    go_ret
    exact ⟨rfl, HP.out⟩
  | succ m ih =>
    intro i n xs st b w hm hn hi hst hx hP
    by_cases h1 : n ≤ 1
    · rw [Go.Proofs.Ytpoaapedcmfcfaa.Mk.inclP_one _ _ _ _ _ _ h1]
      have HP := Aside0.mk hP
      have h1' : (n : Int) ≤ 1 := by omega
      clear hP hm h1
      go_enter Try.func95, Try.ntmps95
      go_wp2_with fail
      go_ret
      exact ⟨rfl, HP.out⟩
    · have hh := Go.Proofs.Ytpoaapedcmfcfaa.Mk.halfN_lt n (by omega)
      have HSP : Aside0 (∀ w, Calls Try.prog 93 #[.int .i64 (n : Int)] w fun e w' => e = .returned (.int .i64 ((Go.Proofs.Ytpoaapedcmfcfaa.Mk.halfN n : Nat) : Int)) ∧ Below w.heap.size w w') := ⟨fun w => impl_inclusionRoot.split n (by omega) w⟩
      by_cases hlow : i < Go.Proofs.Ytpoaapedcmfcfaa.Mk.halfN n
      · rw [Go.Proofs.Ytpoaapedcmfcfaa.Mk.inclP_low _ _ _ _ _ _ (by omega) hlow]
        obtain ⟨a1, a2, a3, a4⟩ := Go.Proofs.Ytpoaapedcmfcfaa.Mk.inclP_bs leaf hl m i (Go.Proofs.Ytpoaapedcmfcfaa.Mk.halfN n) xs b st (by omega) hx
        have HI : Aside0 (∀ w, impl_inclusionRoot.PS w0 w bp xs b st → _) := ⟨fun w h => ih i (Go.Proofs.Ytpoaapedcmfcfaa.Mk.halfN n) xs st b w (by omega) (by omega) hi (by omega) hx h⟩
        generalize Go.Proofs.Ytpoaapedcmfcfaa.Mk.halfN n = k at *
        generalize Go.Proofs.Ytpoaapedcmfcfaa.Mk.inclP leaf i k xs b st = r at *
        obtain ⟨rh, rx, rb, rs⟩ := r
        simp only at a1 a2 a3 a4 HI ⊢
        obtain ⟨b1, b2, b3⟩ := Go.Proofs.Ytpoaapedcmfcfaa.Mk.nextP_bs rx rb a2
        have HX : Aside0 (∀ w, impl_inclusionRoot.PS w0 w bp rx rb rs → _) := ⟨fun w h => impl_inclusionRoot.next w0 w bp rx rs rb h⟩
        generalize Go.Proofs.Ytpoaapedcmfcfaa.Mk.nextP rx rb = t at *
        obtain ⟨th, tx, tb⟩ := t
        simp only at b1 b2 b3 HX ⊢
        have HD : Aside0 (∀ w, impl_inclusionRoot.PS w0 w bp tx tb rs → _) := ⟨fun w h => impl_inclusionRoot.node w0 w bp tx rs tb rh th h a1 b1 (by omega)⟩
        have HP := Aside0.mk hP
        have c1 : 1 < (n : Int) := by omega
        have c2 : (i : Int) < (k : Int) := by omega
        clear hP hm hn hi hst hx h1 hh hlow a1 a2 a3 a4 b1 b2 b3 ih
        go_enter Try.func95, Try.ntmps95
        go_wp2_with (first
          | (go_at_call 93; refine (HSP.out _).mono ?_; rintro e W1 ⟨rfl, hb1⟩; have HP1 := Aside0.mk (HP.out.step hb1); clear hb1)
          | (go_at_call 95; refine (HI.out _ HP1.out).mono ?_; rintro e W2 ⟨rfl, hp2⟩; have HP2 := Aside0.mk hp2; clear hp2)
          | (go_at_call 108; refine (HX.out _ HP2.out).mono ?_; rintro e W3 ⟨rfl, hp3⟩; have HP3 := Aside0.mk hp3; clear hp3)
          | (go_at_call 107; refine (HD.out _ HP3.out).mono ?_; rintro e W4 ⟨rfl, hp4⟩; have HP4 := Aside0.mk hp4; clear hp4))
        go_ret
        exact ⟨rfl, HP4.out⟩
      · rw [Go.Proofs.Ytpoaapedcmfcfaa.Mk.inclP_high _ _ _ _ _ _ (by omega) hlow]
        obtain ⟨a1, a2, a3, a4⟩ := Go.Proofs.Ytpoaapedcmfcfaa.Mk.inclP_bs leaf hl m (i - Go.Proofs.Ytpoaapedcmfcfaa.Mk.halfN n) (n - Go.Proofs.Ytpoaapedcmfcfaa.Mk.halfN n) xs b st (by omega) hx
        have HI : Aside0 (∀ w, impl_inclusionRoot.PS w0 w bp xs b st → _) := ⟨fun w h => ih (i - Go.Proofs.Ytpoaapedcmfcfaa.Mk.halfN n) (n - Go.Proofs.Ytpoaapedcmfcfaa.Mk.halfN n) xs st b w (by omega) (by omega) (by omega) (by omega) hx h⟩
        generalize Go.Proofs.Ytpoaapedcmfcfaa.Mk.halfN n = k at *
        obtain ⟨i1, hi1⟩ : ∃ q, i - k = q := ⟨_, rfl⟩
        obtain ⟨n1, hn1⟩ : ∃ q, n - k = q := ⟨_, rfl⟩
        rw [hi1, hn1] at HI a1 a2 a3 a4 ⊢
        have e1 : IntKind.i64.wrap ((i : Int) - (k : Int)) = (i1 : Int) := by rw [← hi1]; exact (IntWalk.i64_in _ (by omega)).trans (by omega)
        have e2 : IntKind.i64.wrap ((n : Int) - (k : Int)) = (n1 : Int) := by rw [← hn1]; exact (IntWalk.i64_in _ (by omega)).trans (by omega)
        generalize Go.Proofs.Ytpoaapedcmfcfaa.Mk.inclP leaf i1 n1 xs b st = r at *
        obtain ⟨rh, rx, rb, rs⟩ := r
        simp only at a1 a2 a3 a4 HI ⊢
        obtain ⟨b1, b2, b3⟩ := Go.Proofs.Ytpoaapedcmfcfaa.Mk.nextP_bs rx rb a2
        have HX : Aside0 (∀ w, impl_inclusionRoot.PS w0 w bp rx rb rs → _) := ⟨fun w h => impl_inclusionRoot.next w0 w bp rx rs rb h⟩
        generalize Go.Proofs.Ytpoaapedcmfcfaa.Mk.nextP rx rb = t at *
        obtain ⟨th, tx, tb⟩ := t
        simp only at b1 b2 b3 HX ⊢
        have HD : Aside0 (∀ w, impl_inclusionRoot.PS w0 w bp tx tb rs → _) := ⟨fun w h => impl_inclusionRoot.node w0 w bp tx rs tb th rh h b1 a1 (by omega)⟩
        have HP := Aside0.mk hP
        have c1 : 1 < (n : Int) := by omega
        have c2 : (k : Int) ≤ (i : Int) := by omega
        clear hP hm hn hi hst hx h1 hh hlow a1 a2 a3 a4 b1 b2 b3 ih hi1 hn1
        go_enter Try.func95, Try.ntmps95
        go_wp2_with (first
          | (go_at_call 93; refine (HSP.out _).mono ?_; rintro e W1 ⟨rfl, hb1⟩; have HP1 := Aside0.mk (HP.out.step hb1); clear hb1)
          | (go_at_call 95; refine (HI.out _ HP1.out).mono ?_; rintro e W2 ⟨rfl, hp2⟩; have HP2 := Aside0.mk hp2; clear hp2)
          | (go_at_call 108; refine (HX.out _ HP2.out).mono ?_; rintro e W3 ⟨rfl, hp3⟩; have HP3 := Aside0.mk hp3; clear hp3)
          | (go_at_call 107; refine (HD.out _ HP3.out).mono ?_; rintro e W4 ⟨rfl, hp4⟩; have HP4 := Aside0.mk hp4; clear hp4))
        go_ret
        exact ⟨rfl, HP4.out⟩
theorem impl_inclusionRoot.within (a b c : Int) (w : World) : Calls Try.prog 76 #[.int .i64 a, .int .i64 b, .int .i64 c] w fun e w' => e = .returned (.bool (decide (b ≤ a ∧ a ≤ c))) ∧ Below w.heap.size w w' := by
  have h : impl_within.f a b c = some (decide (b ≤ a ∧ a ≤ c)) := by
    unfold impl_within.f
    split <;> simp only [Option.some.injEq] <;> rw [Bool.eq_iff_iff] <;> simp <;> omega
  exact (impl_within.calls a b c _ w h).mono fun e w' h => ⟨h.1, Drawn0.below h.2⟩
theorem impl_inclusionRoot.start (w : World) (A : Option Addr) (c : Nat) (xs : List ByteArray) (hc : xs.length ≤ c) (hr : ReadsOf Value.string ByteArray.empty w A xs.length xs) (u : Nat) :
    impl_inclusionRoot.PS w (w.alloc (Obj.cells #[Value.slice A xs.length c, Value.bool false, Value.slice none 0 0] u)) w.heap.size xs false [] := by
  refine ⟨below_alloc (Below.refl _ _) _, Nat.le_refl _, A, c, .slice none 0 0, ?_, ?_, ?_, ⟨?_, ?_, ?_⟩, hc, hr, own_nil _ _ _ _⟩
  · rw [World.cell?_alloc_new]; rfl
  · rw [World.cell?_alloc_new]; rfl
  · rw [World.cell?_alloc_new]; rfl
  all_goals exact World.frozen?_alloc_new _ _ _ _
def impl_inclusionRoot.iroot (t : ByteArray × List ByteArray × Bool × List ByteArray) : ByteArray × List ByteArray × Int :=
  if t.2.2.1 = true ∨ 0 < t.2.1.length then (⟨#[]⟩, [], 10) else (t.1, t.2.2.2, 0)
def impl_inclusionRoot.f (a0 : ByteArray) (a1 a2 : Int) (l3 : List ByteArray) : Option (ByteArray × List ByteArray × Int) :=
  if a0.size ≤ 100000000 ∧ (l3.all fun x => decide (x.size ≤ 100000000)) = true then
    some (if 1 ≤ a2 ∧ a2 ≤ 64 ∧ 0 ≤ a1 ∧ a1 ≤ a2 - 1 then impl_inclusionRoot.iroot (Go.Proofs.Ytpoaapedcmfcfaa.Mk.inclP a0 a1.toNat a2.toNat l3 false []) else (⟨#[]⟩, [], 4)) else none
set_option maxHeartbeats 400000 in
set_option maxRecDepth 100000 in
theorem impl_inclusionRoot.calls_in (a0 : ByteArray) (i n : Nat) (A3 : Option Addr) (c3 : Nat) (l3 : List ByteArray) (r : ByteArray × List ByteArray × Bool × List ByteArray) (w : World) (hr3 : Kd.C Kd.string w A3 l3.length l3) (hc3 : l3.length ≤ c3)
    (hn1 : 1 ≤ n) (hn : n ≤ 64) (hi : i < n)
    (HI : Aside0 (∀ (w0 w : World) (bp : Nat), impl_inclusionRoot.PS w0 w bp l3 false [] → Calls Try.prog 95 #[.pointer (some ⟨bp, 0, none⟩), .string a0, .int .i64 (i : Int), .int .i64 (n : Int)] w fun e w' => e = .returned (.string r.1) ∧ impl_inclusionRoot.PS w0 w' bp r.2.1 r.2.2.1 r.2.2.2)) :
    Calls Try.prog 72 #[.string a0, .int .i64 (i : Int), .int .i64 (n : Int), .slice A3 l3.length c3] w fun e w' => ∃ v1_ : Value, e = .returned (.tuple #[.string (impl_inclusionRoot.iroot r).1, v1_, .int .i64 (impl_inclusionRoot.iroot r).2.2]) ∧ Kd.R Kd.string 9 w' w.heap.size (fun _ => True) v1_ (impl_inclusionRoot.iroot r).2.1 ∧ Below w.heap.size w w' := by
  have e1 : IntKind.i64.wrap ((n : Int) - 1) = (n : Int) - 1 := IntWalk.i64_in _ (by omega)
  have HW : Aside0 (∀ w, Calls Try.prog 76 #[.int .i64 (n : Int), .int .i64 1, .int .i64 64] w fun e w' => e = .returned (.bool true) ∧ Below w.heap.size w w') := ⟨fun w => by have := impl_inclusionRoot.within (n : Int) 1 64 w; rw [decide_eq_true (by omega)] at this; exact this⟩
  have HW2 : Aside0 (∀ w, Calls Try.prog 76 #[.int .i64 (i : Int), .int .i64 0, .int .i64 ((n : Int) - 1)] w fun e w' => e = .returned (.bool true) ∧ Below w.heap.size w w') := ⟨fun w => by have := impl_inclusionRoot.within (i : Int) 0 ((n : Int) - 1) w; rw [decide_eq_true (by omega)] at this; exact this⟩
  have HR3 := Aside0.mk hr3
  have HC3 := Aside0.mk hc3
  clear hr3 hc3 hn1 hn hi
  obtain ⟨rh, rx, rb, rs⟩ := r
  simp only at HI
  generalize hq : impl_inclusionRoot.iroot (rh, rx, rb, rs) = q
  obtain ⟨q1, q2, q3⟩ := q
  have HQ := Aside0.mk hq
  clear hq
  have hcs : (rb = true) ∨ (rb = false ∧ 0 < rx.length) ∨ (rb = false ∧ ¬ 0 < rx.length) := by
    cases rb
    · rcases Nat.eq_zero_or_pos rx.length with h0 | h0
      · exact .inr (.inr ⟨rfl, by omega⟩)
      · exact .inr (.inl ⟨rfl, by omega⟩)
    · exact .inl rfl
  rcases hcs with rfl | ⟨rfl, hlen⟩ | ⟨rfl, hlen⟩
  all_goals
    go_enter Try.func72, Try.ntmps72
    go_wp2_with (first
      | (go_at_call 76; with_reducible refine (HW.out _).mono ?_; rintro e W1 ⟨rfl, hb1⟩; have HB1 := Aside0.mk hb1; clear hb1)
      | (go_at_call 76; with_reducible refine (HW2.out _).mono ?_; rintro e W2 ⟨rfl, hb2⟩; have HB2 := Aside0.mk (HB1.out.trans (hb2.mono HB1.out.size)); clear hb2)
      | (go_at_call 95; go_loud (refine (HI.out W2 _ W2.heap.size (impl_inclusionRoot.start W2 A3 c3 l3 HC3.out ((Kd.reads_of_C (enc := Value.string) (d := ByteArray.empty) (h1 := fun _ => rfl) HR3.out).below HB2.out) _)).mono ?_; rintro e W3 ⟨rfl, hp3⟩; obtain ⟨A5, c5, v5, k0, k1, k2, ⟨g0, g1, g2⟩, hx5, _, ho5⟩ := hp3.ex; obtain ⟨A6, c6, rfl⟩ := own_slice ho5; have HP3 := Aside0.mk hp3; have HO5 := Aside0.mk ho5; clear hp3 ho5 hx5)))
    try (go_quiet (fail); go_wp2)
    go_ret3
  · have e := HQ.out
    rw [impl_inclusionRoot.iroot, if_pos (.inl rfl)] at e
    injection e with e1 e; injection e with e2 e3
    subst e1 e2 e3
    exact ⟨_, rfl, Kd.R_nil _ _ _ _ _, HB2.out.trans (HP3.out.low.mono HB2.out.size)⟩
  · have e := HQ.out
    rw [impl_inclusionRoot.iroot, if_pos (.inr hlen)] at e
    injection e with e1 e; injection e with e2 e3
    subst e1 e2 e3
    exact ⟨_, rfl, Kd.R_nil _ _ _ _ _, HB2.out.trans (HP3.out.low.mono HB2.out.size)⟩
  · have e := HQ.out
    rw [impl_inclusionRoot.iroot, if_neg (by rintro (h | h); exact absurd h (by simp); exact hlen h)] at e
    injection e with e1 e; injection e with e2 e3
    subst e1 e2 e3
    refine ⟨_, rfl, ?_, ?_⟩
    · refine Kd.R_mono (Kd.R_of_own (v := .slice A6 rs.length c6) (own_weaken (base' := w.heap.size) HO5.out ?_) (fun _ _ => trivial)) (fun _ h => h)
      exact Nat.le_trans HB2.out.size (Nat.le_succ _)
    · repeat (first | exact HB2.out.trans (HP3.out.low.mono HB2.out.size) | apply below_alloc | apply pw_below_drewN | apply below_drew1)
set_option maxHeartbeats 1000000 in
set_option maxRecDepth 100000 in
theorem impl_inclusionRoot.calls_out (a0 : ByteArray) (a1 a2 : Int) (A3 : Option Addr) (c3 : Nat) (n3 : Nat) (w : World) (h : ¬ (1 ≤ a2 ∧ a2 ≤ 64 ∧ 0 ≤ a1 ∧ a1 ≤ a2 - 1)) :
    Calls Try.prog 72 #[.string a0, .int .i64 a1, .int .i64 a2, .slice A3 n3 c3] w fun e w' => ∃ v1_ : Value, e = .returned (.tuple #[.string ⟨#[]⟩, v1_, .int .i64 4]) ∧ Kd.R Kd.string 9 w' w.heap.size (fun _ => True) v1_ [] ∧ Below w.heap.size w w' := by
  by_cases h1 : 1 ≤ a2 ∧ a2 ≤ 64
  · have h2 : ¬ (0 ≤ a1 ∧ a1 ≤ a2 - 1) := fun k => h ⟨h1.1, h1.2, k.1, k.2⟩
    have e1 : IntKind.i64.wrap (a2 - 1) = a2 - 1 := IntWalk.i64_in _ (by omega)
    have HW : Aside0 (∀ w, Calls Try.prog 76 #[.int .i64 a2, .int .i64 1, .int .i64 64] w fun e w' => e = .returned (.bool true) ∧ Below w.heap.size w w') := ⟨fun w => by have := impl_inclusionRoot.within a2 1 64 w; rw [decide_eq_true h1] at this; exact this⟩
    have HW2 : Aside0 (∀ w, Calls Try.prog 76 #[.int .i64 a1, .int .i64 0, .int .i64 (a2 - 1)] w fun e w' => e = .returned (.bool false) ∧ Below w.heap.size w w') := ⟨fun w => by have := impl_inclusionRoot.within a1 0 (a2 - 1) w; rw [decide_eq_false h2] at this; exact this⟩
    clear h h1 h2
    go_enter Try.func72, Try.ntmps72
    go_wp2_with (first
      | (go_at_call 76; with_reducible refine (HW.out _).mono ?_; rintro e W1 ⟨rfl, hb1⟩; have HB1 := Aside0.mk hb1; clear hb1)
      | (go_at_call 76; with_reducible refine (HW2.out _).mono ?_; rintro e W2 ⟨rfl, hb2⟩; have HB2 := Aside0.mk (HB1.out.trans (hb2.mono HB1.out.size)); clear hb2))
    go_ret3
    exact ⟨_, rfl, Kd.R_nil _ _ _ _ _, HB2.out⟩
  · have HW : Aside0 (∀ w, Calls Try.prog 76 #[.int .i64 a2, .int .i64 1, .int .i64 64] w fun e w' => e = .returned (.bool false) ∧ Below w.heap.size w w') := ⟨fun w => by have := impl_inclusionRoot.within a2 1 64 w; rw [decide_eq_false h1] at this; exact this⟩
    clear h h1
    go_enter Try.func72, Try.ntmps72
    go_wp2_with (first
      | (go_at_call 76; with_reducible refine (HW.out _).mono ?_; rintro e W1 ⟨rfl, hb1⟩; have HB1 := Aside0.mk hb1; clear hb1))
    go_ret3
    exact ⟨_, rfl, Kd.R_nil _ _ _ _ _, HB1.out⟩
theorem impl_inclusionRoot.bs_of {l : List ByteArray} (h : (l.all fun x => decide (x.size ≤ 100000000)) = true) : Go.Proofs.Ytpoaapedcmfcfaa.Mk.BS l := fun x hx => of_decide_eq_true (List.all_eq_true.mp h x hx)
theorem impl_inclusionRoot.calls (a0 : ByteArray) (a1 a2 : Int) (A3 : Option Addr) (c3 : Nat) (l3 : List ByteArray) (r1 : ByteArray) (r2 : List ByteArray) (r3 : Int) (w : World) (hr3 : Kd.C Kd.string w A3 l3.length l3) (hc3 : l3.length ≤ c3) (h : impl_inclusionRoot.f a0 a1 a2 l3 = some (r1, r2, r3)) :
    Calls Try.prog 72 #[.string a0, .int .i64 a1, .int .i64 a2, .slice A3 l3.length c3] w fun e w' => ∃ v1_ : Value, e = .returned (.tuple #[.string r1, v1_, .int .i64 r3]) ∧ Kd.R Kd.string 9 w' w.heap.size (fun _ => True) v1_ r2 ∧ Below w.heap.size w w' := by
  unfold impl_inclusionRoot.f at h
  split at h
  · rename_i hs
    replace h := Option.some.inj h
    obtain ⟨hs1, hs2⟩ := hs
    split at h
    · rename_i hin
      obtain ⟨i, rfl⟩ := Int.eq_ofNat_of_zero_le hin.2.2.1
      obtain ⟨n, rfl⟩ := Int.eq_ofNat_of_zero_le (show 0 ≤ a2 by omega)
      rw [Int.toNat_natCast, Int.toNat_natCast] at h
      have := impl_inclusionRoot.calls_in a0 i n A3 c3 l3 _ w hr3 hc3 (by omega) (by omega) (by omega) ⟨fun w0 w bp h => impl_inclusionRoot.incl w0 bp a0 hs1 n i n l3 [] false w (Nat.le_refl _) (by omega) (by omega) (by simp; omega) (impl_inclusionRoot.bs_of hs2) h⟩
      rw [h] at this
      exact this
    · rename_i hin
      injection h with e1 e; injection e with e2 e3
      subst e1 e2 e3
      exact impl_inclusionRoot.calls_out a0 a1 a2 A3 c3 l3.length w hin
  · cases h

/-! ### impl_InclusionRoot: function 34 -/
def impl_InclusionRoot.f (k : Nat) (a0 : ByteArray) (a1 : Int) (a2 : Int) (l3 : List ByteArray) : Option (ByteArray × Int) := (impl_proofCode.f k l3 (([a0] : List ByteArray))).bind fun t142 => (if t142 = 0 then ((impl_inclusionRoot.f a0 a1 a2 l3).bind fun bt143 => (some (bt143.1, bt143.2.2))) else (some ((⟨#[]⟩ : ByteArray), t142)))
theorem impl_InclusionRoot.mono : ∀ a0 a1 a2 a3 k, LeO (impl_InclusionRoot.f k a0 a1 a2 a3) (impl_InclusionRoot.f (k + 1) a0 a1 a2 a3) := by
  intro a0 a1 a2 a3 k
  unfold impl_InclusionRoot.f
  repeat' first
      | (with_reducible exact impl_proofCode.mono _ _ _)
      | (with_reducible exact LeO.refl _)
      | (with_reducible exact LeO.none _)
      | (with_reducible refine LeO.ite ?_ ?_)
      | (with_reducible refine LeO.bind ?_ (fun _ => ?_))
      | exact impl_proofCode.mono _ _ _
      | exact LeO.none _
      | refine LeO.ite ?_ ?_
      | refine LeO.bind ?_ (fun _ => ?_)
set_option maxHeartbeats 8000000 in
set_option maxRecDepth 100000 in
theorem impl_InclusionRoot.calls (k : Nat) (a0 : ByteArray) (a1 : Int) (a2 : Int) (A3 : Option Addr) (c3 : Nat) (l3 : List ByteArray) (r1 : ByteArray) (r2 : Int) (w : World) (hr3 : Kd.C Kd.string w A3 l3.length l3) (hc3 : l3.length ≤ c3) (h : impl_InclusionRoot.f k a0 a1 a2 l3 = some (r1, r2)) :
    Calls Try.prog 34 #[.string a0, .int .i64 a1, .int .i64 a2, .slice A3 l3.length c3] w fun e w' => e = .returned (.tuple #[.string r1, .int .i64 r2]) ∧ Below w.heap.size w w' := by
  have HR3 := Aside0.mk hr3
  have HC3 := Aside0.mk hc3
  clear hr3 hc3
  have HB := Aside0.mk (Below.refl w.heap.size w)
  have H : ((impl_proofCode.f k l3 (([a0] : List ByteArray))).bind fun t142 => (if t142 = 0 then ((impl_inclusionRoot.f a0 a1 a2 l3).bind fun bt143 => (some (bt143.1, bt143.2.2))) else (some ((⟨#[]⟩ : ByteArray), t142)))) = some (r1, r2) := h
  clear h
  obtain ⟨y139, hy139⟩ : ∃ y_ : List ByteArray, y_ = (([a0] : List ByteArray)) := ⟨_, rfl⟩
  replace H : ((impl_proofCode.f k l3 y139).bind fun t142 => (if t142 = 0 then ((impl_inclusionRoot.f a0 a1 a2 l3).bind fun bt143 => (some (bt143.1, bt143.2.2))) else (some ((⟨#[]⟩ : ByteArray), t142)))) = some (r1, r2) := by first | (rw [hy139]; with_reducible exact H) | (have H2_ := (Option.bind_some _ _).symm.trans H; rw [hy139]; with_reducible exact H2_) | (have H2_ := (Option.bind_some _ _).symm.trans H; with_reducible exact H2_) | with_reducible exact H | (rw [hy139]; exact H) | exact H
  have Ny139 := Aside0.mk hy139
  clear hy139
  replace H := Option.bind_eq_some_iff.mp H
  obtain ⟨t142, A50, H⟩ := H
  replace H : (if t142 = 0 then ((impl_inclusionRoot.f a0 a1 a2 l3).bind fun bt143 => (some (bt143.1, bt143.2.2))) else (some ((⟨#[]⟩ : ByteArray), t142))) = some (r1, r2) := H
  have A5 := Aside0.mk A50
  clear A50
  by_cases c6 : t142 = 0
  · rw [if_pos c6] at H
    have c6b0 : (t142 == 0) = true := beq_iff_eq.mpr c6
    have c6b1 : (t142 != 0) = false := bne_eq_false_iff_eq.mpr c6
    clear c6
    replace H := Option.bind_eq_some_iff.mp H
    obtain ⟨⟨t143, t144, t145⟩, A70, H⟩ := H
    replace H : (some (t143, t145)) = some (r1, r2) := H
    have A7 := Aside0.mk A70
    clear A70
    simp only [Option.some.injEq, Prod.mk.injEq] at H
    obtain ⟨rfl, rfl⟩ := H
    go_enter Try.func34, Try.ntmps34
    go_wp2_with (first | ((with_reducible refine gate_dst (N := 16) rfl ?_); refine Kd.R_lit Kd.string _ 9 ?hg (N := 16) ?hd (xs := ([a0] : List ByteArray)) (inner := [.string a0]) (ok := fun _ => True) (okp := fun _ => True) ?hr ?hp (fun _ hk => hk) trivial (Below.refl _ _) (Nat.le_refl _) (by simp) ?_; (case hd => rfl); (case hg => rfl); (case hr => first | (go_simp; done) | (go_simp; rfl)); (case hp => exact (Reps.one (show Kd.M Kd.string _ _ _ a0 [.string a0] from rfl) (Reps.none _ _))); intro v140 w8 ho9 hb hg_ hnew_; clear hg_ hnew_; (first | rw [← Ny139.out] at ho9 | (simp only [Int.reduceToNat] at ho9; rw [← Ny139.out] at ho9)); have n0_ := Aside0.mk (Kd.R_lower ho9 (below_size (by repeat (first | (with_reducible first | exact HB.out | apply below_alloc | apply pw_below_drewN | apply below_drew1) | exact HB.out)))); have n1_ := Aside0.mk (below_step (by repeat (first | (with_reducible first | exact HB.out | apply below_alloc | apply pw_below_drewN | apply below_drew1) | exact HB.out)) hb); clear HB; have HO141 := n0_; have HB := n1_; clear n0_ n1_; clear hb ho9; obtain ⟨Ao10, co10, eo10⟩ := Kd.R_slice HO141.out; subst eo10) | ((with_reducible refine gate_callee (f := 71) rfl ?_); refine goesL_ (some 17) rfl rfl Try.func71 (by kernel_rfl) rfl #[.slice A3 l3.length c3, .slice Ao10 y139.length co10] rfl (by (try simp only [List.map_toArray, List.map_cons, List.map_nil]); first | done | rfl | (simp only [List.length_drop, List.length_take]; rfl)) ?_; (with_reducible refine (impl_proofCode.calls k _ _ l3 _ _ y139 t142 _ ?side1 ?side2 ?side3 ?side4 A5.out).mono ?_); (case side1 => repeat (first | exact (Kd.C_below HR3.out HB.out) | (with_reducible refine Kd.C_alloc ?_ _) | (with_reducible refine Kd.C_drewN ?_ _) | (with_reducible refine Kd.C_drew ?_))); (case side2 => exact HC3.out); (case side3 => repeat (first | exact (Kd.R_reads' HO141.out).2.2 | (with_reducible refine Kd.C_alloc ?_ _) | (with_reducible refine Kd.C_drewN ?_ _) | (with_reducible refine Kd.C_drew ?_))); (case side4 => exact (Kd.R_reads' HO141.out).2.1); rintro e w' ⟨rfl, ⟨nd, rfl⟩⟩; refine ⟨_, rfl, ?_⟩) | ((with_reducible refine gate_callee (f := 72) rfl ?_); refine goesL_ (some 26) rfl rfl Try.func72 (by kernel_rfl) rfl #[.string a0, .int .i64 a1, .int .i64 a2, .slice A3 l3.length c3] rfl (by (try simp only [List.map_toArray, List.map_cons, List.map_nil]); first | done | rfl | (simp only [List.length_drop, List.length_take]; rfl)) ?_; (with_reducible refine (impl_inclusionRoot.calls a0 a1 a2 _ _ l3 t143 t144 t145 _ ?side1 ?side2 A7.out).mono ?_); (case side1 => repeat (first | exact (Kd.C_below HR3.out (by repeat (first | (with_reducible first | exact HB.out | apply below_alloc | apply pw_below_drewN | apply below_drew1) | exact HB.out))) | (with_reducible refine Kd.C_alloc ?_ _) | (with_reducible refine Kd.C_drewN ?_ _) | (with_reducible refine Kd.C_drew ?_))); (case side2 => exact HC3.out); rintro e w11 ⟨v146, rfl, ho0, hb⟩; refine ⟨_, rfl, ?_⟩; have n0_ := Aside0.mk (Kd.R_elder' (by (with_reducible repeat (first | apply Kd.R_alloc | apply Kd.R_drewN | apply Kd.R_drew)); exact HO141.out) (Kd.R_base ho0) hb); have n1_ := Aside0.mk (Kd.R_lower (Kd.R_new' ho0 (Kd.R_lt (by (with_reducible repeat (first | apply Kd.R_alloc | apply Kd.R_drewN | apply Kd.R_drew)); exact HO141.out))) (below_size (by repeat (first | (with_reducible first | exact HB.out | apply below_alloc | apply pw_below_drewN | apply below_drew1) | exact HB.out)))); have n2_ := Aside0.mk (below_step (by repeat (first | (with_reducible first | exact HB.out | apply below_alloc | apply pw_below_drewN | apply below_drew1) | exact HB.out)) hb); clear HO141; clear HB; have HO141 := n0_; have HO147 := n1_; have HB := n2_; clear n0_ n1_ n2_; (try clear hb); (try clear hb2); (try clear hk); (try clear hi); (try clear ho0)))
    go_ret2
    exact ⟨by first | rfl | (simp [errW_none, errW_some] <;> rfl) | (simp [*, errW_none, errW_some] <;> rfl), by repeat (first | (with_reducible first | exact HB.out | apply below_alloc | apply pw_below_drewN | apply below_drew1) | exact HB.out)⟩
  · rw [if_neg c6] at H
    have c6b0 : (t142 == 0) = false := beq_eq_false_iff_ne.mpr c6
    have c6b1 : (t142 != 0) = true := bne_iff_ne.mpr c6
    simp only [Option.some.injEq, Prod.mk.injEq] at H
    obtain ⟨rfl, rfl⟩ := H
    go_enter Try.func34, Try.ntmps34
    go_wp2_with (first | ((with_reducible refine gate_dst (N := 16) rfl ?_); refine Kd.R_lit Kd.string _ 9 ?hg (N := 16) ?hd (xs := ([a0] : List ByteArray)) (inner := [.string a0]) (ok := fun _ => True) (okp := fun _ => True) ?hr ?hp (fun _ hk => hk) trivial (Below.refl _ _) (Nat.le_refl _) (by simp) ?_; (case hd => rfl); (case hg => rfl); (case hr => first | (go_simp; done) | (go_simp; rfl)); (case hp => exact (Reps.one (show Kd.M Kd.string _ _ _ a0 [.string a0] from rfl) (Reps.none _ _))); intro v140 w12 ho13 hb hg_ hnew_; clear hg_ hnew_; (first | rw [← Ny139.out] at ho13 | (simp only [Int.reduceToNat] at ho13; rw [← Ny139.out] at ho13)); have n0_ := Aside0.mk (Kd.R_lower ho13 (below_size (by repeat (first | (with_reducible first | exact HB.out | apply below_alloc | apply pw_below_drewN | apply below_drew1) | exact HB.out)))); have n1_ := Aside0.mk (below_step (by repeat (first | (with_reducible first | exact HB.out | apply below_alloc | apply pw_below_drewN | apply below_drew1) | exact HB.out)) hb); clear HB; have HO141 := n0_; have HB := n1_; clear n0_ n1_; clear hb ho13; obtain ⟨Ao14, co14, eo14⟩ := Kd.R_slice HO141.out; subst eo14) | ((with_reducible refine gate_callee (f := 71) rfl ?_); refine goesL_ (some 17) rfl rfl Try.func71 (by kernel_rfl) rfl #[.slice A3 l3.length c3, .slice Ao14 y139.length co14] rfl (by (try simp only [List.map_toArray, List.map_cons, List.map_nil]); first | done | rfl | (simp only [List.length_drop, List.length_take]; rfl)) ?_; (with_reducible refine (impl_proofCode.calls k _ _ l3 _ _ y139 t142 _ ?side1 ?side2 ?side3 ?side4 A5.out).mono ?_); (case side1 => repeat (first | exact (Kd.C_below HR3.out HB.out) | (with_reducible refine Kd.C_alloc ?_ _) | (with_reducible refine Kd.C_drewN ?_ _) | (with_reducible refine Kd.C_drew ?_))); (case side2 => exact HC3.out); (case side3 => repeat (first | exact (Kd.R_reads' HO141.out).2.2 | (with_reducible refine Kd.C_alloc ?_ _) | (with_reducible refine Kd.C_drewN ?_ _) | (with_reducible refine Kd.C_drew ?_))); (case side4 => exact (Kd.R_reads' HO141.out).2.1); rintro e w' ⟨rfl, ⟨nd, rfl⟩⟩; refine ⟨_, rfl, ?_⟩))
    go_ret2
    exact ⟨by first | rfl | (simp [errW_none, errW_some] <;> rfl) | (simp [*, errW_none, errW_some] <;> rfl), by repeat (first | (with_reducible first | exact HB.out | apply below_alloc | apply pw_below_drewN | apply below_drew1) | exact HB.out)⟩

/-! ### laws_FnExactInclusionRoot: function 9 -/
def laws_FnExactInclusionRoot.j0 : Nat → List ByteArray → List ByteArray → Bool → Option (Bool)
  | 0, _, _, _ => none
  | k + 1, x3, x12, x49 => if x49 = true then (some false) else ((laws_toStringS.f k x3).bind fun t159 => ((laws_eqStringS.f k x12 t159).bind fun t162 => (if t162 = true then (some true) else (some false))))
def laws_FnExactInclusionRoot.f (k : Nat) (a0 : ByteArray) (a1 : Int) (a2 : Int) (l3 : List ByteArray) : Option (Bool) := if (a0.size : Int) > 1048576 then (some true) else ((laws_szStringS.f k l3 1048576).bind fun t148 => (if t148 < 0 then (some true) else ((laws_toStringS.f k l3).bind fun t149 => ((spec_InclusionRoot.f k a0 a1 a2 t149).bind fun bt152 => ((laws_toStringS.f k l3).bind fun t154 => ((impl_InclusionRoot.f k a0 a1 a2 t154).bind fun bt157 => (if bt157.1.toList = bt152.1.toList then (laws_FnExactInclusionRoot.j0 k l3 t154 (bt157.2 != bt152.2)) else (laws_FnExactInclusionRoot.j0 k l3 t154 true))))))))
theorem laws_FnExactInclusionRoot.mono_l : ∀ k, (∀ y0 y1 y2, LeO (laws_FnExactInclusionRoot.j0 k y0 y1 y2) (laws_FnExactInclusionRoot.j0 (k + 1) y0 y1 y2))
  | 0 => fun _ _ _ r h => by simp [laws_FnExactInclusionRoot.j0] at h
  | k + 1 => by
    have ih0 := laws_FnExactInclusionRoot.mono_l k
    · intro y0 y1 y2
      unfold laws_FnExactInclusionRoot.j0
      repeat' first
      | (with_reducible exact ih0 _ _ _)
      | (with_reducible exact impl_InclusionRoot.mono _ _ _ _ _)
      | (with_reducible exact laws_eqStringS.mono _ _ _)
      | (with_reducible exact laws_szStringS.mono _ _ _)
      | (with_reducible exact laws_toStringS.mono _ _)
      | (with_reducible exact spec_InclusionRoot.mono _ _ _ _ _)
      | (with_reducible exact LeO.refl _)
      | (with_reducible exact LeO.none _)
      | (with_reducible refine LeO.ite ?_ ?_)
      | (with_reducible refine LeO.bind ?_ (fun _ => ?_))
      | exact ih0 _ _ _
      | exact impl_InclusionRoot.mono _ _ _ _ _
      | exact laws_eqStringS.mono _ _ _
      | exact laws_szStringS.mono _ _ _
      | exact laws_toStringS.mono _ _
      | exact spec_InclusionRoot.mono _ _ _ _ _
      | exact LeO.none _
      | refine LeO.ite ?_ ?_
      | refine LeO.bind ?_ (fun _ => ?_)
theorem laws_FnExactInclusionRoot.mono : ∀ a0 a1 a2 a3 k, LeO (laws_FnExactInclusionRoot.f k a0 a1 a2 a3) (laws_FnExactInclusionRoot.f (k + 1) a0 a1 a2 a3) := by
  intro a0 a1 a2 a3 k
  have ih0 := laws_FnExactInclusionRoot.mono_l k
  unfold laws_FnExactInclusionRoot.f
  repeat' first
      | (with_reducible exact ih0 _ _ _)
      | (with_reducible exact impl_InclusionRoot.mono _ _ _ _ _)
      | (with_reducible exact laws_eqStringS.mono _ _ _)
      | (with_reducible exact laws_szStringS.mono _ _ _)
      | (with_reducible exact laws_toStringS.mono _ _)
      | (with_reducible exact spec_InclusionRoot.mono _ _ _ _ _)
      | (with_reducible exact LeO.refl _)
      | (with_reducible exact LeO.none _)
      | (with_reducible refine LeO.ite ?_ ?_)
      | (with_reducible refine LeO.bind ?_ (fun _ => ?_))
      | exact ih0 _ _ _
      | exact impl_InclusionRoot.mono _ _ _ _ _
      | exact laws_eqStringS.mono _ _ _
      | exact laws_szStringS.mono _ _ _
      | exact laws_toStringS.mono _ _
      | exact spec_InclusionRoot.mono _ _ _ _ _
      | exact LeO.none _
      | refine LeO.ite ?_ ?_
      | refine LeO.bind ?_ (fun _ => ?_)
set_option maxHeartbeats 8000000 in
set_option maxRecDepth 100000 in
theorem laws_FnExactInclusionRoot.calls (k : Nat) (a0 : ByteArray) (a1 : Int) (a2 : Int) (A3 : Option Addr) (c3 : Nat) (l3 : List ByteArray) (r : Bool) (w : World) (hr3 : Kd.C Kd.string w A3 l3.length l3) (hc3 : l3.length ≤ c3) (h : laws_FnExactInclusionRoot.f k a0 a1 a2 l3 = some r) :
    Calls Try.prog 9 #[.string a0, .int .i64 a1, .int .i64 a2, .slice A3 l3.length c3] w fun e w' => e = .returned (.bool r) ∧ Below w.heap.size w w' := by
  have HR3 := Aside0.mk hr3
  have HC3 := Aside0.mk hc3
  clear hr3 hc3
  have HB := Aside0.mk (Below.refl w.heap.size w)
  have H : (if (a0.size : Int) > 1048576 then (some true) else ((laws_szStringS.f k l3 1048576).bind fun t148 => (if t148 < 0 then (some true) else ((laws_toStringS.f k l3).bind fun t149 => ((spec_InclusionRoot.f k a0 a1 a2 t149).bind fun bt152 => ((laws_toStringS.f k l3).bind fun t154 => ((impl_InclusionRoot.f k a0 a1 a2 t154).bind fun bt157 => (if bt157.1.toList = bt152.1.toList then (laws_FnExactInclusionRoot.j0 k l3 t154 (bt157.2 != bt152.2)) else (laws_FnExactInclusionRoot.j0 k l3 t154 true))))))))) = some r := h
  clear h
  by_cases c5 : (a0.size : Int) > 1048576
  · rw [if_pos c5] at H
    have c5b0 : decide (1048576 < (a0.size : Int)) = true := decide_eq_true c5
    have c5b1 : decide (1048576 < a0.size) = true := decide_eq_true (by omega)
    clear c5
    obtain rfl := Option.some.inj H
    go_enter Try.func9, Try.ntmps9
    go_wp2
    go_ret
    exact ⟨by first | rfl | (simp [errW_none, errW_some] <;> rfl) | (simp [*, errW_none, errW_some] <;> rfl), by repeat (first | (with_reducible first | exact HB.out | apply below_alloc | apply pw_below_drewN | apply below_drew1) | exact HB.out)⟩
  · rw [if_neg c5] at H
    have c5b0 : decide (1048576 < (a0.size : Int)) = false := decide_eq_false c5
    have c5b1 : decide (1048576 < a0.size) = false := decide_eq_false (by omega)
    clear c5
    replace H := Option.bind_eq_some_iff.mp H
    obtain ⟨t148, A60, H⟩ := H
    replace H : (if t148 < 0 then (some true) else ((laws_toStringS.f k l3).bind fun t149 => ((spec_InclusionRoot.f k a0 a1 a2 t149).bind fun bt152 => ((laws_toStringS.f k l3).bind fun t154 => ((impl_InclusionRoot.f k a0 a1 a2 t154).bind fun bt157 => (if bt157.1.toList = bt152.1.toList then (laws_FnExactInclusionRoot.j0 k l3 t154 (bt157.2 != bt152.2)) else (laws_FnExactInclusionRoot.j0 k l3 t154 true))))))) = some r := H
    have A6 := Aside0.mk A60
    clear A60
    by_cases c7 : t148 < 0
    · rw [if_pos c7] at H
      have c7b0 : decide (t148 < 0) = true := decide_eq_true c7
      clear c7
      obtain rfl := Option.some.inj H
      go_enter Try.func9, Try.ntmps9
      go_wp2_with (first | ((with_reducible refine gate_callee (f := 23) rfl ?_); refine goesL_ (some 20) rfl rfl Try.func23 (by kernel_rfl) rfl #[.slice A3 l3.length c3, .int .i64 1048576] rfl (by (try simp only [List.map_toArray, List.map_cons, List.map_nil]); first | done | rfl | (simp only [List.length_drop, List.length_take]; rfl)) ?_; (with_reducible refine (laws_szStringS.calls k _ _ l3 1048576 t148 _ ?side1 ?side2 A6.out).mono ?_); (case side1 => repeat (first | exact HR3.out | (with_reducible refine Kd.C_alloc ?_ _) | (with_reducible refine Kd.C_drewN ?_ _) | (with_reducible refine Kd.C_drew ?_))); (case side2 => exact HC3.out); rintro e w' ⟨rfl, ⟨nd, rfl⟩⟩; refine ⟨_, rfl, ?_⟩))
      go_ret
      exact ⟨by first | rfl | (simp [errW_none, errW_some] <;> rfl) | (simp [*, errW_none, errW_some] <;> rfl), by repeat (first | (with_reducible first | exact HB.out | apply below_alloc | apply pw_below_drewN | apply below_drew1) | exact HB.out)⟩
    · rw [if_neg c7] at H
      have c7b0 : decide (t148 < 0) = false := decide_eq_false c7
      clear c7
      replace H := Option.bind_eq_some_iff.mp H
      obtain ⟨t149, A80, H⟩ := H
      replace H : ((spec_InclusionRoot.f k a0 a1 a2 t149).bind fun bt152 => ((laws_toStringS.f k l3).bind fun t154 => ((impl_InclusionRoot.f k a0 a1 a2 t154).bind fun bt157 => (if bt157.1.toList = bt152.1.toList then (laws_FnExactInclusionRoot.j0 k l3 t154 (bt157.2 != bt152.2)) else (laws_FnExactInclusionRoot.j0 k l3 t154 true))))) = some r := H
      have A8 := Aside0.mk A80
      clear A80
      replace H := Option.bind_eq_some_iff.mp H
      obtain ⟨⟨t152, t153⟩, A90, H⟩ := H
      replace H : ((laws_toStringS.f k l3).bind fun t154 => ((impl_InclusionRoot.f k a0 a1 a2 t154).bind fun bt157 => (if bt157.1.toList = t152.toList then (laws_FnExactInclusionRoot.j0 k l3 t154 (bt157.2 != t153)) else (laws_FnExactInclusionRoot.j0 k l3 t154 true)))) = some r := H
      have A9 := Aside0.mk A90
      clear A90
      replace H := Option.bind_eq_some_iff.mp H
      obtain ⟨t154, A100, H⟩ := H
      replace H : ((impl_InclusionRoot.f k a0 a1 a2 t154).bind fun bt157 => (if bt157.1.toList = t152.toList then (laws_FnExactInclusionRoot.j0 k l3 t154 (bt157.2 != t153)) else (laws_FnExactInclusionRoot.j0 k l3 t154 true))) = some r := H
      have A10 := Aside0.mk A100
      clear A100
      replace H := Option.bind_eq_some_iff.mp H
      obtain ⟨⟨t157, t158⟩, A110, H⟩ := H
      replace H : (if t157.toList = t152.toList then (laws_FnExactInclusionRoot.j0 k l3 t154 (t158 != t153)) else (laws_FnExactInclusionRoot.j0 k l3 t154 true)) = some r := H
      have A11 := Aside0.mk A110
      clear A110
      have HC12 := Aside0.mk H
      clear H
      go_enter Try.func9, Try.ntmps9
      go_upto_region 10 with (first | ((with_reducible refine gate_callee (f := 23) rfl ?_); refine goesL_ (some 20) rfl rfl Try.func23 (by kernel_rfl) rfl #[.slice A3 l3.length c3, .int .i64 1048576] rfl (by (try simp only [List.map_toArray, List.map_cons, List.map_nil]); first | done | rfl | (simp only [List.length_drop, List.length_take]; rfl)) ?_; (with_reducible refine (laws_szStringS.calls k _ _ l3 1048576 t148 _ ?side1 ?side2 A6.out).mono ?_); (case side1 => repeat (first | exact HR3.out | (with_reducible refine Kd.C_alloc ?_ _) | (with_reducible refine Kd.C_drewN ?_ _) | (with_reducible refine Kd.C_drew ?_))); (case side2 => exact HC3.out); rintro e w' ⟨rfl, ⟨nd, rfl⟩⟩; refine ⟨_, rfl, ?_⟩) | ((with_reducible refine gate_callee (f := 25) rfl ?_); refine goesL_ (some 28) rfl rfl Try.func25 (by kernel_rfl) rfl #[.slice A3 l3.length c3] rfl (by (try simp only [List.map_toArray, List.map_cons, List.map_nil]); first | done | rfl | (simp only [List.length_drop, List.length_take]; rfl)) ?_; (with_reducible refine (laws_toStringS.calls k _ _ l3 t149 _ ?side1 ?side2 A8.out).mono ?_); (case side1 => repeat (first | exact HR3.out | (with_reducible refine Kd.C_alloc ?_ _) | (with_reducible refine Kd.C_drewN ?_ _) | (with_reducible refine Kd.C_drew ?_))); (case side2 => exact HC3.out); rintro e w13 ⟨v150, rfl, ho0, hb⟩; refine ⟨_, rfl, ?_⟩; have n0_ := Aside0.mk (Kd.R_lower ho0 (below_size (by repeat (first | (with_reducible first | exact HB.out | apply below_alloc | apply pw_below_drewN | apply below_drew1) | exact HB.out)))); have n1_ := Aside0.mk (below_step (by repeat (first | (with_reducible first | exact HB.out | apply below_alloc | apply pw_below_drewN | apply below_drew1) | exact HB.out)) hb); clear HB; have HO151 := n0_; have HB := n1_; clear n0_ n1_; (try clear hb); (try clear hb2); (try clear hk); (try clear hi); (try clear ho0); obtain ⟨Ao14, co14, eo14⟩ := Kd.R_slice HO151.out; subst eo14) | ((with_reducible refine gate_callee (f := 33) rfl ?_); refine goesL_ (some 29) rfl rfl Try.func33 (by kernel_rfl) rfl #[.string a0, .int .i64 a1, .int .i64 a2, .slice Ao14 t149.length co14] rfl (by (try simp only [List.map_toArray, List.map_cons, List.map_nil]); first | done | rfl | (simp only [List.length_drop, List.length_take]; rfl)) ?_; (with_reducible refine (spec_InclusionRoot.calls k a0 a1 a2 _ _ t149 t152 t153 _ ?side1 ?side2 A9.out).mono ?_); (case side1 => repeat (first | exact (Kd.R_reads' HO151.out).2.2 | (with_reducible refine Kd.C_alloc ?_ _) | (with_reducible refine Kd.C_drewN ?_ _) | (with_reducible refine Kd.C_drew ?_))); (case side2 => exact (Kd.R_reads' HO151.out).2.1); rintro e w15 ⟨rfl, hb⟩; refine ⟨_, rfl, ?_⟩; have n0_ := Aside0.mk (Kd.R_below (by (with_reducible repeat (first | apply Kd.R_alloc | apply Kd.R_drewN | apply Kd.R_drew)); exact HO151.out) hb); have n1_ := Aside0.mk (below_step (by repeat (first | (with_reducible first | exact HB.out | apply below_alloc | apply pw_below_drewN | apply below_drew1) | exact HB.out)) hb); clear HO151; clear HB; have HO151 := n0_; have HB := n1_; clear n0_ n1_; (try clear hb); (try clear hb2); (try clear hk); (try clear hi)) | ((with_reducible refine gate_callee (f := 25) rfl ?_); refine goesL_ (some 33) rfl rfl Try.func25 (by kernel_rfl) rfl #[.slice A3 l3.length c3] rfl (by (try simp only [List.map_toArray, List.map_cons, List.map_nil]); first | done | rfl | (simp only [List.length_drop, List.length_take]; rfl)) ?_; (with_reducible refine (laws_toStringS.calls k _ _ l3 t154 _ ?side1 ?side2 A10.out).mono ?_); (case side1 => repeat (first | exact (Kd.C_below HR3.out HB.out) | (with_reducible refine Kd.C_alloc ?_ _) | (with_reducible refine Kd.C_drewN ?_ _) | (with_reducible refine Kd.C_drew ?_))); (case side2 => exact HC3.out); rintro e w16 ⟨v155, rfl, ho0, hb⟩; refine ⟨_, rfl, ?_⟩; have n0_ := Aside0.mk (Kd.R_elder' (by (with_reducible repeat (first | apply Kd.R_alloc | apply Kd.R_drewN | apply Kd.R_drew)); exact HO151.out) (Kd.R_base ho0) hb); have n1_ := Aside0.mk (Kd.R_lower (Kd.R_new' ho0 (Kd.R_lt (by (with_reducible repeat (first | apply Kd.R_alloc | apply Kd.R_drewN | apply Kd.R_drew)); exact HO151.out))) (below_size (by repeat (first | (with_reducible first | exact HB.out | apply below_alloc | apply pw_below_drewN | apply below_drew1) | exact HB.out)))); have n2_ := Aside0.mk (below_step (by repeat (first | (with_reducible first | exact HB.out | apply below_alloc | apply pw_below_drewN | apply below_drew1) | exact HB.out)) hb); clear HO151; clear HB; have HO151 := n0_; have HO156 := n1_; have HB := n2_; clear n0_ n1_ n2_; (try clear hb); (try clear hb2); (try clear hk); (try clear hi); (try clear ho0); obtain ⟨Ao17, co17, eo17⟩ := Kd.R_slice HO156.out; subst eo17) | ((with_reducible refine gate_callee (f := 34) rfl ?_); refine goesL_ (some 39) rfl rfl Try.func34 (by kernel_rfl) rfl #[.string a0, .int .i64 a1, .int .i64 a2, .slice Ao17 t154.length co17] rfl (by (try simp only [List.map_toArray, List.map_cons, List.map_nil]); first | done | rfl | (simp only [List.length_drop, List.length_take]; rfl)) ?_; (with_reducible refine (impl_InclusionRoot.calls k a0 a1 a2 _ _ t154 t157 t158 _ ?side1 ?side2 A11.out).mono ?_); (case side1 => repeat (first | exact (Kd.R_reads' HO156.out).2.2 | (with_reducible refine Kd.C_alloc ?_ _) | (with_reducible refine Kd.C_drewN ?_ _) | (with_reducible refine Kd.C_drew ?_))); (case side2 => exact (Kd.R_reads' HO156.out).2.1); rintro e w18 ⟨rfl, hb⟩; refine ⟨_, rfl, ?_⟩; have n0_ := Aside0.mk (Kd.R_below (by (with_reducible repeat (first | apply Kd.R_alloc | apply Kd.R_drewN | apply Kd.R_drew)); exact HO151.out) hb); have n1_ := Aside0.mk (Kd.R_below (by (with_reducible repeat (first | apply Kd.R_alloc | apply Kd.R_drewN | apply Kd.R_drew)); exact HO156.out) hb); have n2_ := Aside0.mk (below_step (by repeat (first | (with_reducible first | exact HB.out | apply below_alloc | apply pw_below_drewN | apply below_drew1) | exact HB.out)) hb); clear HO151; clear HO156; clear HB; have HO151 := n0_; have HO156 := n1_; have HB := n2_; clear n0_ n1_ n2_; (try clear hb); (try clear hb2); (try clear hk); (try clear hi)))
      (try simp only [Act.put, List.setIfInBounds_toArray, List.set_cons_zero, List.set_cons_succ])
      go_cut [49] (fun v49 wc => ∃ (kq : Nat) (x49_11 : Bool), v49 = .bool x49_11 ∧ Aside0 (laws_FnExactInclusionRoot.j0 kq l3 t154 x49_11 = some r) ∧ Aside0 (kq ≤ k) ∧ Aside0 (Kd.R Kd.string 9 wc w.heap.size (fun _ => True) (.slice Ao17 t154.length co17) t154) ∧ Aside0 (Below w.heap.size w wc))
      case first =>
        have H := HC12.out
        clear HC12
        by_cases c19 : t157.toList = t152.toList
        · rw [if_pos c19] at H
          have c19b0 : (t157.toList == t152.toList) = true := beq_iff_eq.mpr c19
          have c19b1 : (t157.toList != t152.toList) = false := bne_eq_false_iff_eq.mpr c19
          clear c19
          (first | rw [c19b0] | (simp only [i64_w, i32_w]; rw [c19b0]) | skip)
          have H' := Aside0.mk H
          clear H
          go_wp2
          go_meet
          case rel => exact ⟨_, ((t158 != t153)), (by first | rfl | (simp; done) | (simp [*]; done)), H', ⟨by first | omega | exact Nat.le_refl _⟩, ⟨by (with_reducible repeat (first | apply Kd.R_alloc | apply Kd.R_drewN | apply Kd.R_drew)); exact Kd.R_mono HO156.out (fun _ hk => trivial)⟩, ⟨by repeat (first | (with_reducible first | exact HB.out | apply below_alloc | apply pw_below_drewN | apply below_drew1) | exact HB.out)⟩⟩
        · rw [if_neg c19] at H
          have c19b0 : (t157.toList == t152.toList) = false := beq_eq_false_iff_ne.mpr c19
          have c19b1 : (t157.toList != t152.toList) = true := bne_iff_ne.mpr c19
          (first | rw [c19b0] | (simp only [i64_w, i32_w]; rw [c19b0]) | skip)
          have H' := Aside0.mk H
          clear H
          go_wp2
          go_meet
          case rel => exact ⟨_, (true), (by first | rfl | (simp; done) | (simp [*]; done)), H', ⟨by first | omega | exact Nat.le_refl _⟩, ⟨by (with_reducible repeat (first | apply Kd.R_alloc | apply Kd.R_drewN | apply Kd.R_drew)); exact Kd.R_mono HO156.out (fun _ hk => trivial)⟩, ⟨by repeat (first | (with_reducible first | exact HB.out | apply below_alloc | apply pw_below_drewN | apply below_drew1) | exact HB.out)⟩⟩
      case rest =>
        clear HC12
        try clear c1
        try clear c2
        try clear p2
        try clear c3
        try clear c5
        try clear c5b0
        try clear c5b1
        try clear c7
        try clear c7b0
        try clear c9
        try clear c19
        try clear c19b0
        try clear c19b1
        obtain ⟨kq, x49_11, rfl, HA, HJ11, HO_12, HB⟩ := hcut
        cases kq with
        | zero => exact absurd HA.out (by simp [laws_FnExactInclusionRoot.j0])
        | succ kj11 =>
          have H := HA.out
          clear HA
          simp only [laws_FnExactInclusionRoot.j0] at H
          by_cases c20 : x49_11 = true
          · subst c20
            have H1 : (some false) = some r := by rw [if_pos rfl] at H; exact H
            clear H
            have H := H1
            clear H1
            obtain rfl := Option.some.inj H
            go_wp2
            go_ret
            exact ⟨by first | rfl | (simp [errW_none, errW_some] <;> rfl) | (simp [*, errW_none, errW_some] <;> rfl), by repeat (first | (with_reducible first | exact HB.out | apply below_alloc | apply pw_below_drewN | apply below_drew1) | exact HB.out)⟩
          · replace c20 := Bool.eq_false_iff.mpr c20
            subst c20
            have H1 : ((laws_toStringS.f kj11 l3).bind fun t159 => ((laws_eqStringS.f kj11 t154 t159).bind fun t162 => (if t162 = true then (some true) else (some false)))) = some r := by rw [if_neg (show ¬ (false = true) by decide)] at H; exact H
            clear H
            have H := H1
            clear H1
            replace H := Option.bind_eq_some_iff.mp H
            obtain ⟨t159, A210, H⟩ := H
            replace H : ((laws_eqStringS.f kj11 t154 t159).bind fun t162 => (if t162 = true then (some true) else (some false))) = some r := H
            have A21 := Aside0.mk A210
            clear A210
            replace H := Option.bind_eq_some_iff.mp H
            obtain ⟨t162, A220, H⟩ := H
            replace H : (if t162 = true then (some true) else (some false)) = some r := H
            have A22 := Aside0.mk A220
            clear A220
            by_cases c23 : t162 = true
            · subst c23
              have H1 : (some true) = some r := by rw [if_pos rfl] at H; exact H
              clear H
              have H := H1
              clear H1
              obtain rfl := Option.some.inj H
              go_wp2_with (first | ((with_reducible refine gate_callee (f := 25) rfl ?_); refine goesL_ (some 52) rfl rfl Try.func25 (by kernel_rfl) rfl #[.slice A3 l3.length c3] rfl (by (try simp only [List.map_toArray, List.map_cons, List.map_nil]); first | done | rfl | (simp only [List.length_drop, List.length_take]; rfl)) ?_; (with_reducible refine (laws_toStringS.calls kj11 _ _ l3 t159 _ ?side1 ?side2 A21.out).mono ?_); (case side1 => repeat (first | exact (Kd.C_below HR3.out HB.out) | (with_reducible refine Kd.C_alloc ?_ _) | (with_reducible refine Kd.C_drewN ?_ _) | (with_reducible refine Kd.C_drew ?_))); (case side2 => exact HC3.out); rintro e w24 ⟨v160, rfl, ho0, hb⟩; refine ⟨_, rfl, ?_⟩; have n0_ := Aside0.mk (Kd.R_elder' (by (with_reducible repeat (first | apply Kd.R_alloc | apply Kd.R_drewN | apply Kd.R_drew)); exact HO_12.out) (Kd.R_base ho0) hb); have n1_ := Aside0.mk (Kd.R_lower (Kd.R_new' ho0 (Kd.R_lt (by (with_reducible repeat (first | apply Kd.R_alloc | apply Kd.R_drewN | apply Kd.R_drew)); exact HO_12.out))) (below_size (by repeat (first | (with_reducible first | exact HB.out | apply below_alloc | apply pw_below_drewN | apply below_drew1) | exact HB.out)))); have n2_ := Aside0.mk (below_step (by repeat (first | (with_reducible first | exact HB.out | apply below_alloc | apply pw_below_drewN | apply below_drew1) | exact HB.out)) hb); clear HO_12; clear HB; have HO_12 := n0_; have HO161 := n1_; have HB := n2_; clear n0_ n1_ n2_; (try clear hb); (try clear hb2); (try clear hk); (try clear hi); (try clear ho0); obtain ⟨Ao25, co25, eo25⟩ := Kd.R_slice HO161.out; subst eo25) | ((with_reducible refine gate_callee (f := 27) rfl ?_); refine goesL_ (some 53) rfl rfl Try.func27 (by kernel_rfl) rfl #[.slice Ao17 t154.length co17, .slice Ao25 t159.length co25] rfl (by (try simp only [List.map_toArray, List.map_cons, List.map_nil]); first | done | rfl | (simp only [List.length_drop, List.length_take]; rfl)) ?_; (with_reducible refine (laws_eqStringS.calls kj11 _ _ t154 _ _ t159 true _ ?side1 ?side2 ?side3 ?side4 A22.out).mono ?_); (case side1 => repeat (first | exact (Kd.R_reads' HO_12.out).2.2 | (with_reducible refine Kd.C_alloc ?_ _) | (with_reducible refine Kd.C_drewN ?_ _) | (with_reducible refine Kd.C_drew ?_))); (case side2 => exact (Kd.R_reads' HO_12.out).2.1); (case side3 => repeat (first | exact (Kd.R_reads' HO161.out).2.2 | (with_reducible refine Kd.C_alloc ?_ _) | (with_reducible refine Kd.C_drewN ?_ _) | (with_reducible refine Kd.C_drew ?_))); (case side4 => exact (Kd.R_reads' HO161.out).2.1); rintro e w' ⟨rfl, ⟨nd, rfl⟩⟩; refine ⟨_, rfl, ?_⟩))
              go_ret
              exact ⟨by first | rfl | (simp [errW_none, errW_some] <;> rfl) | (simp [*, errW_none, errW_some] <;> rfl), by repeat (first | (with_reducible first | exact HB.out | apply below_alloc | apply pw_below_drewN | apply below_drew1) | exact HB.out)⟩
            · replace c23 := Bool.eq_false_iff.mpr c23
              subst c23
              have H1 : (some false) = some r := by rw [if_neg (show ¬ (false = true) by decide)] at H; exact H
              clear H
              have H := H1
              clear H1
              obtain rfl := Option.some.inj H
              go_wp2_with (first | ((with_reducible refine gate_callee (f := 25) rfl ?_); refine goesL_ (some 52) rfl rfl Try.func25 (by kernel_rfl) rfl #[.slice A3 l3.length c3] rfl (by (try simp only [List.map_toArray, List.map_cons, List.map_nil]); first | done | rfl | (simp only [List.length_drop, List.length_take]; rfl)) ?_; (with_reducible refine (laws_toStringS.calls kj11 _ _ l3 t159 _ ?side1 ?side2 A21.out).mono ?_); (case side1 => repeat (first | exact (Kd.C_below HR3.out HB.out) | (with_reducible refine Kd.C_alloc ?_ _) | (with_reducible refine Kd.C_drewN ?_ _) | (with_reducible refine Kd.C_drew ?_))); (case side2 => exact HC3.out); rintro e w26 ⟨v160, rfl, ho0, hb⟩; refine ⟨_, rfl, ?_⟩; have n0_ := Aside0.mk (Kd.R_elder' (by (with_reducible repeat (first | apply Kd.R_alloc | apply Kd.R_drewN | apply Kd.R_drew)); exact HO_12.out) (Kd.R_base ho0) hb); have n1_ := Aside0.mk (Kd.R_lower (Kd.R_new' ho0 (Kd.R_lt (by (with_reducible repeat (first | apply Kd.R_alloc | apply Kd.R_drewN | apply Kd.R_drew)); exact HO_12.out))) (below_size (by repeat (first | (with_reducible first | exact HB.out | apply below_alloc | apply pw_below_drewN | apply below_drew1) | exact HB.out)))); have n2_ := Aside0.mk (below_step (by repeat (first | (with_reducible first | exact HB.out | apply below_alloc | apply pw_below_drewN | apply below_drew1) | exact HB.out)) hb); clear HO_12; clear HB; have HO_12 := n0_; have HO161 := n1_; have HB := n2_; clear n0_ n1_ n2_; (try clear hb); (try clear hb2); (try clear hk); (try clear hi); (try clear ho0); obtain ⟨Ao27, co27, eo27⟩ := Kd.R_slice HO161.out; subst eo27) | ((with_reducible refine gate_callee (f := 27) rfl ?_); refine goesL_ (some 53) rfl rfl Try.func27 (by kernel_rfl) rfl #[.slice Ao17 t154.length co17, .slice Ao27 t159.length co27] rfl (by (try simp only [List.map_toArray, List.map_cons, List.map_nil]); first | done | rfl | (simp only [List.length_drop, List.length_take]; rfl)) ?_; (with_reducible refine (laws_eqStringS.calls kj11 _ _ t154 _ _ t159 false _ ?side1 ?side2 ?side3 ?side4 A22.out).mono ?_); (case side1 => repeat (first | exact (Kd.R_reads' HO_12.out).2.2 | (with_reducible refine Kd.C_alloc ?_ _) | (with_reducible refine Kd.C_drewN ?_ _) | (with_reducible refine Kd.C_drew ?_))); (case side2 => exact (Kd.R_reads' HO_12.out).2.1); (case side3 => repeat (first | exact (Kd.R_reads' HO161.out).2.2 | (with_reducible refine Kd.C_alloc ?_ _) | (with_reducible refine Kd.C_drewN ?_ _) | (with_reducible refine Kd.C_drew ?_))); (case side4 => exact (Kd.R_reads' HO161.out).2.1); rintro e w' ⟨rfl, ⟨nd, rfl⟩⟩; refine ⟨_, rfl, ?_⟩))
              go_ret
              exact ⟨by first | rfl | (simp [errW_none, errW_some] <;> rfl) | (simp [*, errW_none, errW_some] <;> rfl), by repeat (first | (with_reducible first | exact HB.out | apply below_alloc | apply pw_below_drewN | apply below_drew1) | exact HB.out)⟩

end Go.Proofs.Ytpoaapedcmfcfaa.PFnExactInclusionRoot
