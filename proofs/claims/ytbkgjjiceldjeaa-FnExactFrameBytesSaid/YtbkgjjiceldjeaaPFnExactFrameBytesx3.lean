import Derived.Test.YtbkgjjiceldjeaaPFnExactFrameBytesx1
import Derived.Test.YtbkgjjiceldjeaaPFnExactFrameBytesx2
import Derived.Test.YtbkgjjiceldjeaaU
namespace Go.Proofs.Ytbkgjjiceldjeaa.PFnExactFrameBytes
open Go.RowKit Go.Proofs.YtbkgjjiceldjeaaW.PrintWords Go.Proofs.YtbkgjjiceldjeaaW.PrintLast Go.Proofs.YtbkgjjiceldjeaaW.PrintMore
set_option linter.unusedVariables false
set_option linter.unusedSimpArgs false
-- BEGIN mb
/-- A row of bytes that a text was turned into: its block bears a mark behind its end. -/
def mb.At (w : World) (g c : Nat) (l : List Int) : Prop := ∃ cs : Array Value, w.heap[g]? = some (.cells cs 5 (c, c + 1)) ∧ cs.size = c ∧ l.length ≤ c ∧ (∀ j (h : j < l.length), cs[j]? = some (.int .u8 l[j])) ∧ l.length ≤ 9223372036854775807
theorem mb.At.cell {w : World} {g c : Nat} {l : List Int} (h : mb.At w g c l) (j : Nat) (hj : j < l.length) : w.cell? ⟨g, j, none⟩ = some (.int .u8 l[j]) := by
  obtain ⟨cs, h1, h2, h3, h4, h5⟩ := h
  unfold World.cell?
  rw [h1]
  exact h4 j hj
theorem mb.At.free {w : World} {g c : Nat} {l : List Int} (h : mb.At w g c l) (j : Nat) (hj : j < c) : w.frozen? ⟨g, j, none⟩ = false := by
  obtain ⟨cs, h1, h2, h3, h4, h5⟩ := h
  unfold World.frozen?
  rw [h1]
  simp
  omega
theorem mb.At.lt {w : World} {g c : Nat} {l : List Int} (h : mb.At w g c l) : g < w.heap.size := by
  obtain ⟨cs, h1, _⟩ := h
  exact blk_lt h1
theorem mb.At.moved {w w' : World} {g c : Nat} {l : List Int} (h : mb.At w g c l) (hm : w'.heap[g]? = w.heap[g]?) : mb.At w' g c l := by
  obtain ⟨cs, h1, h2⟩ := h
  exact ⟨cs, hm.trans h1, h2⟩
theorem mb.At.set {w : World} {g c : Nat} {l : List Int} (h : mb.At w g c l) (j : Nat) (hj : j < l.length) (v : Int) : mb.At (w.setCell ⟨g, j, none⟩ (.int .u8 v)) g c (l.set j v) := by
  obtain ⟨cs, h1, h2, h3, h4, h5⟩ := h
  refine ⟨cs.setIfInBounds j (.int .u8 v), ?_, ?_, ?_, ?_, by rw [List.length_set]; exact h5⟩
  · unfold World.setCell
    simp only
    rw [Array.getElem?_modify]
    simp only [if_true, h1, Option.map_some]
    rfl
  · simpa using h2
  · rw [List.length_set]; exact h3
  · intro i hi
    rw [List.length_set] at hi
    rw [List.getElem_set, Array.getElem?_setIfInBounds]
    by_cases e : j = i
    · subst e
      simp only [if_true]
      rw [if_pos (by omega)]
    · rw [if_neg e, if_neg e]
      exact h4 i hi
theorem mb.At.reads {w : World} {g c : Nat} {l : List Int} (h : mb.At w g c l) : Kd.C (Kd.int .u8) w (some ⟨g, 0, none⟩) l.length l := by
  refine Kd.C_of_reads (enc := Value.int .u8) (d := (0 : Int)) (h1 := fun _ => rfl) ⟨rfl, ?_, fun hn => ⟨⟨g, 0, none⟩, rfl, fun j hj => ?_⟩⟩
  · obtain ⟨cs, h1, h2, h3, h4, h5⟩ := h
    exact h5
  · have := h.cell j hj
    rw [List.getD_eq_getElem?_getD, List.getElem?_eq_getElem hj, Option.getD_some]
    have e : (⟨g, 0, none⟩ : Addr).add j = ⟨g, j, none⟩ := by unfold Addr.add; split <;> simp_all
    rw [e]
    exact this
set_option maxHeartbeats 1000000 in
set_option maxRecDepth 100000 in
theorem mb.mark (k : Nat) (g c : Nat) (l0 : List Int) (a1 r1 : Int) (r2 : List Int) (w : World) (h0 : mb.At w g c l0) (h : laws_markByteS.f k l0 a1 = some (r1, r2)) :
    Calls Try.prog 24 #[.slice (some ⟨g, 0, none⟩) l0.length c, .int .i64 a1] w fun e w' => e = .returned (.int .i64 r1) ∧ mb.At w' g c r2 ∧ r2.length = l0.length ∧ Kept w w' (fun i => i = g) ∧ Below g w w' := by
  have HO0 := Aside0.mk h0
  have HK := Aside0.mk (Kept.refl w (fun i => i = g))
  have HB := Aside0.mk (Below.refl g w)
  have H' : Aside0 (laws_markByteS.l0 k l0 a1 0 = some (r1, r2)) := ⟨h⟩
  clear h h0
  go_enter Try.func24, Try.ntmps24
  go_wp2
  go_loopg [1, 5] k (fun kq v1 v5 w' => ∃ (x0_1 : List Int) (x1_1 : Int) (x5_1 : Int), v1 = .int .i64 x1_1 ∧ v5 = .int .i64 x5_1 ∧ Aside0 (laws_markByteS.l0 kq x0_1 x1_1 x5_1 = some (r1, r2)) ∧ Aside0 (kq ≤ k) ∧ Aside0 (mb.At w' g c x0_1) ∧ Aside0 (x0_1.length = l0.length) ∧ Aside0 (Kept w w' (fun i => i = g)) ∧ Aside0 (Below g w w'))
  case atStart => exact ⟨l0, a1, 0, rfl, rfl, H', ⟨Nat.le_refl _⟩, ⟨HO0.out.moved rfl⟩, ⟨rfl⟩, ⟨by repeat (first | (with_reducible first | exact HK.out | apply Kept.alloc | apply Kept.drewN | apply Kept.drew) | exact HK.out)⟩, ⟨by repeat (first | (with_reducible first | exact HB.out | apply pw_below_drewN | apply below_drew1 | apply below_drew) | exact HB.out)⟩⟩
  case round =>
    clear H' HO0
    obtain ⟨x0_1, x1_1, x5_1, rfl, rfl, HA, HK1, HO_0, HL, HK, HB⟩ := hrel
    cases gk with
    | zero => exact absurd HA.out (by simp [laws_markByteS.l0])
    | succ k1 =>
      have H := HA.out
      clear HA
      simp only [laws_markByteS.l0, HL.out] at H
      by_cases c3 : x5_1 < (l0.length : Int)
      · rw [if_pos c3] at H
        have c3b0 : decide (x5_1 < (l0.length : Int)) = true := decide_eq_true c3
        by_cases c4 : 0 ≤ x5_1
        · rw [if_pos c4] at H
          have c4b0 : decide (0 ≤ x5_1) = true := decide_eq_true c4
          obtain ⟨j, rfl⟩ := Int.eq_ofNat_of_zero_le c4
          rw [Int.toNat_natCast] at H
          have H' := Aside0.mk H
          clear H
          have hj : j < x0_1.length := by rw [HL.out]; omega
          have HJ := Aside0.mk hj
          obtain ⟨v0, hx⟩ : ∃ v0, wr.cell? ⟨g, j, none⟩ = some v0 := ⟨_, HO_0.out.cell j hj⟩
          have hf := HO_0.out.free j (by obtain ⟨cs, h1, h2, h3, h4, h5⟩ := HO_0.out; omega)
          have HS := Aside0.mk (HO_0.out.set j hj (x1_1 % 256))
          have c3n : j < l0.length := by omega
          clear hj c3 c4 c3b0
          go_wp2
          go_roundg k1
          case measure => have := HK1.out; omega
          case rel => exact ⟨_, _, _, rfl, rfl, H', ⟨by have := HK1.out; omega⟩, HS, ⟨by rw [List.length_set]; exact HL.out⟩, ⟨HK.out.setCell (.inl rfl) _⟩, ⟨HB.out.setCell (p := ⟨g, j, none⟩) (Nat.le_refl _) _⟩⟩
        · rw [if_neg c4] at H
          exact absurd H (by simp)
      · rw [if_neg c3] at H
        have c3b0 : decide (x5_1 < (l0.length : Int)) = false := decide_eq_false c3
        clear c3
        simp only [Option.some.injEq, Prod.mk.injEq] at H
        obtain ⟨rfl, rfl⟩ := H
        go_wp2
        go_ret
        exact ⟨rfl, HO_0.out, HL.out, HK.out, HB.out⟩
theorem mb.made (w : World) (s : ByteArray) (hs : s.size ≤ 2000000) : mb.At (Lib.bytesWorld w 5 s) w.heap.size (grownCap w s.size 0 5) (bytesOf s) := by
  have hge := grownCap_ge w s.size 0 5
  have hsz : (Lib.bytesCells w 5 s).size = grownCap w s.size 0 5 := by
    simp [Lib.bytesCells]
    omega
  refine ⟨Lib.bytesCells w 5 s, ?_, hsz, ?_, fun j hj => ?_, ?_⟩
  · rw [← hsz]; exact Lib.bytesWorld_at_new w _ s
  · rw [bytesOf_length]; exact hge
  · rw [bytesOf_length] at hj
    have := Lib.bytesWorld_cell w 5 s j hj
    unfold World.cell? at this
    rw [Lib.bytesWorld_at_new] at this
    simp only [Option.isSome_none, Bool.false_eq_true, if_false] at this
    rw [this]
    simp [bytesOf, List.getD_eq_getElem?_getD, hj]
  · rw [bytesOf_length]; omega
theorem mb.below (w : World) (s : ByteArray) : Below w.heap.size w (Lib.bytesWorld w 5 s) :=
  bytes_below (Below.refl _ _) (Nat.le_refl _) _ s
theorem mb.held (k g c n : Nat) (l : List Int) (a r : Int) (w : World) (h0 : mb.At w g c l) (hn : l.length = n) (h : laws_heldByteS.f k l a = some r) :
    Calls Try.prog 25 #[.slice (some ⟨g, 0, none⟩) n c, .int .i64 a] w fun e w' => e = .returned (.int .i64 r) ∧ Drawn0 w w' := by
  subst hn
  exact laws_heldByteS.calls k _ c l a r w h0.reads (by obtain ⟨cs, h1, h2, h3, h4, h5⟩ := h0; exact h3) h
theorem mb.same (k g c n : Nat) (l : List Int) (A : Option Addr) (n2 c2 : Nat) (l2 : List Int) (r : Bool) (w : World) (h0 : mb.At w g c l) (hn : l.length = n) (hn2 : n2 = l2.length) (hc2 : n2 ≤ c2) (hr2 : Kd.C (Kd.int .u8) w A l2.length l2) (h : laws_eqByteS.f k l l2 = some r) :
    Calls Try.prog 23 #[.slice (some ⟨g, 0, none⟩) n c, .slice A n2 c2] w fun e w' => e = .returned (.bool r) ∧ Drawn0 w w' := by
  subst hn hn2
  exact laws_eqByteS.calls k _ c l _ c2 l2 r w h0.reads (by obtain ⟨cs, h1, h2, h3, h4, h5⟩ := h0; exact h3) hr2 hc2 h
theorem mb.mark_n (k g c n : Nat) (l0 : List Int) (a1 r1 : Int) (r2 : List Int) (w : World) (h0 : mb.At w g c l0) (hn : l0.length = n) (h : laws_markByteS.f k l0 a1 = some (r1, r2)) :
    Calls Try.prog 24 #[.slice (some ⟨g, 0, none⟩) n c, .int .i64 a1] w fun e w' => e = .returned (.int .i64 r1) ∧ mb.At w' g c r2 ∧ r2.length = n ∧ Kept w w' (fun i => i = g) ∧ Below g w w' := by
  subst hn
  exact mb.mark k g c l0 a1 r1 r2 w h0 h
-- END mb
-- BEGIN fb
theorem fb.within (a b c : Int) (w : World) : Calls Try.prog 70 #[.int .i64 a, .int .i64 b, .int .i64 c] w fun e w' => e = .returned (.bool (decide (b ≤ a ∧ a ≤ c))) ∧ Below w.heap.size w w' := by
  have h : impl_within.f a b c = some (decide (b ≤ a ∧ a ≤ c)) := by
    unfold impl_within.f
    split <;> simp only [Option.some.injEq] <;> rw [Bool.eq_iff_iff] <;> simp <;> omega
  exact (impl_within.calls a b c _ w h).mono fun e w' h => ⟨h.1, Drawn0.below h.2⟩
set_option maxHeartbeats 1000000 in
set_option maxRecDepth 100000 in
theorem fb.long (A : Option Addr) (n c : Nat) (w : World) (h : 65536 < n) :
    Calls Try.prog 22 #[.slice A n c] w fun e w' => e = .returned (.tuple #[.slice none 0 0, .int .i64 2]) ∧ Below w.heap.size w w' := by
  have h1 : (65536 : Int) < (n : Int) := by omega
  go_enter Try.func22, Try.ntmps22
  go_wp2
  go_ret2
  exact ⟨rfl, by repeat (first | exact Below.refl _ _ | apply pw_below_drewN | apply below_drew1)⟩
set_option maxHeartbeats 1000000 in
set_option maxRecDepth 100000 in
theorem fb.out (A : Option Addr) (n c : Nat) (w : World) (h : ¬ 65536 < n) (hr : ¬ (1 ≤ (n : Int) ∧ (n : Int) ≤ 200)) :
    Calls Try.prog 22 #[.slice A n c] w fun e w' => e = .returned (.tuple #[.slice none 0 0, .int .i64 4]) ∧ Below w.heap.size w w' := by
  have HW : Aside0 (∀ w, Calls Try.prog 70 #[.int .i64 (n : Int), .int .i64 1, .int .i64 200] w fun e w' => e = .returned (.bool false) ∧ Below w.heap.size w w') := ⟨fun w => by have := fb.within (n : Int) 1 200 w; rw [decide_eq_false hr] at this; exact this⟩
  clear hr
  go_enter Try.func22, Try.ntmps22
  go_wp2_with (first
    | (go_at_call 70; with_reducible refine (HW.out _).mono ?_; rintro e W1 ⟨rfl, hb1⟩; have HB1 := Aside0.mk hb1; clear hb1))
  go_ret2
  exact ⟨rfl, HB1.out⟩
set_option maxHeartbeats 1000000 in
set_option maxRecDepth 100000 in
theorem fb.good (k : Nat) (A : Option Addr) (c : Nat) (l : List Int) (s : ByteArray) (w : World) (hc : Kd.C (Kd.int .u8) w A l.length l) (h1 : 1 ≤ l.length) (h2 : l.length ≤ 200) (hf : impl_frame.f k (strOfNums l) = some s) (hs : s.size ≤ 2000000) :
    Calls Try.prog 22 #[.slice A l.length c] w fun e w' => ∃ g c, e = .returned (.tuple #[.slice (some ⟨g, 0, none⟩) s.size c, .int .i64 0]) ∧ mb.At w' g c (bytesOf s) ∧ w.heap.size ≤ g ∧ Below w.heap.size w w' := by
  have HW : Aside0 (∀ w, Calls Try.prog 70 #[.int .i64 (l.length : Int), .int .i64 1, .int .i64 200] w fun e w' => e = .returned (.bool true) ∧ Below w.heap.size w w') := ⟨fun w => by have := fb.within (l.length : Int) 1 200 w; rw [decide_eq_true (by omega)] at this; exact this⟩
  have HC := Aside0.mk hc
  have HF := Aside0.mk hf
  have hn : ¬ 65536 < l.length := by omega
  clear hc hf h1 h2
  go_enter Try.func22, Try.ntmps22
  go_wp2_with (first
    | (go_at_call 70; with_reducible refine (HW.out _).mono ?_; rintro e W1 ⟨rfl, hb1⟩; have HB1 := Aside0.mk hb1; have hcs := Kd.C_string (P := Try.prog) (src := 28) (dst := 9) (c := c) Try.underlying28 Try.underlying5 Try.underlying9 (Kd.C_below HC.out hb1); clear hb1)
    | (go_at_call 71; with_reducible refine (impl_frame.calls k (strOfNums l) s _ HF.out).mono ?_; rintro e W2 ⟨rfl, hb2⟩; have HB2 := Aside0.mk hb2.size; have HM := Aside0.mk (mb.made W2 s hs); have hcv := print_bytes (P := Try.prog) 9 28 5 Try.underlying9 Try.underlying28 Try.underlying5 s W2; have HB3 := Aside0.mk (hb2.trans ((mb.below W2 s).mono hb2.size)); generalize Lib.bytesWorld W2 5 s = W3 at *; generalize grownCap W2 s.size 0 5 = c at *; clear hb2))
  go_ret2
  have b1 := HB1.out
  exact ⟨_, _, rfl, HM.out, Nat.le_trans b1.size HB2.out, b1.trans (HB3.out.mono b1.size)⟩
-- END fb
-- BEGIN law
set_option maxHeartbeats 2000000 in
set_option maxRecDepth 100000 in
theorem lw.early (A : Option Addr) (n c : Nat) (w : World) (h : 1048576 < n) :
    Calls Try.prog 4 #[.slice A n c] w fun e w' => e = .returned (.bool true) ∧ Below w.heap.size w w' := by
  go_enter Try.func4, Try.ntmps4
  go_wp2
  go_ret
  exact ⟨rfl, by repeat (first | exact Below.refl _ _ | apply pw_below_drewN | apply below_drew1)⟩
set_option maxHeartbeats 2000000 in
set_option maxRecDepth 100000 in
theorem lw.good (k : Nat) (A : Option Addr) (c : Nat) (l : List Int) (w : World) (hr : Kd.C (Kd.int .u8) w A l.length l) (hc : l.length ≤ c) (hlen : l.length ≤ 1048576) (htb : laws_toByteS.f k l = some l) (hex : laws_eqByteS.f k l l = some true) (mx : Int) (lx : List Int) (hmx : laws_markByteS.f k l 1 = some (mx, lx)) (hmx0 : 0 ≤ mx) (s : ByteArray) (m : Int) (l2 : List Int) (h1 : 1 ≤ l.length) (h2 : l.length ≤ 200) (hsp : spec_FrameBytes.f k l = some (bytesOf s, 0)) (hf : impl_frame.f k (strOfNums l) = some s) (hs : s.size ≤ 2000000) (heq : laws_eqByteS.f k (bytesOf s) (bytesOf s) = some true) (hmk : laws_markByteS.f k (bytesOf s) 1 = some (m, l2)) (hhd : laws_heldByteS.f k l2 1 = some m) (hm : 0 ≤ m) :
    Calls Try.prog 4 #[.slice A l.length c] w fun e w' => e = .returned (.bool true) ∧ Below w.heap.size w w' := by
  have HR := Aside0.mk hr
  have HC := Aside0.mk hc
  have HTB := Aside0.mk htb
  have HEX := Aside0.mk hex
  have HMX := Aside0.mk hmx
  have HX := Aside0.mk (Below.refl w.heap.size w)
  have q0 : decide (mx < 0) = false := decide_eq_false (by omega)
  have q1 : ¬ 1048576 < l.length := by omega
  have HSP := Aside0.mk hsp
  have HL1 := Aside0.mk h1
  have HL2 := Aside0.mk h2
  have HF := Aside0.mk hf
  have HS := Aside0.mk hs
  have HEQ := Aside0.mk heq
  have HMK := Aside0.mk hmk
  have HHD := Aside0.mk hhd
  have q2 : decide (m < 0) = false := decide_eq_false (by omega)
  clear hr hc htb hex hmx hmx0 hsp h1 h2 hf hs heq hmk hhd hm hlen
  go_enter Try.func4, Try.ntmps4
  go_wp2_with (first
    | (go_at_call 21; have hx_ := HXX.out; (try clear HT); with_reducible refine (laws_toByteS.calls k A c l l _ (by exact Kd.C_below HR.out HX.out) HC.out HTB.out).mono ?_; rintro e WT ⟨vt, rfl, hr, hb⟩; have n0 := Aside0.mk (below_step (by repeat (first | (with_reducible first | exact HX.out | apply below_alloc | apply pw_below_drewN | apply below_drew1) | exact HX.out)) hb); clear HX; have HX := n0; clear n0; (try (have n1 := Aside0.mk (below_step (by repeat (first | (with_reducible first | exact H3.out | apply below_alloc | apply pw_below_drewN | apply below_drew1) | exact H3.out)) hb); clear H3; have H3 := n1; clear n1)); (try (have n3 := Aside0.mk (Kd.R_below HX0.out hb); clear HX0; have HX0 := n3; clear n3)); (try (have n2 := Aside0.mk (HG.out.moved (hb.block g HG.out.lt)); clear HG; have HG := n2; clear n2)); obtain ⟨At, ct, rfl⟩ := Kd.R_slice hr; have hrr := Kd.R_reads' hr; have HT := Aside0.mk hrr; clear hrr hr hb; clear hx_)
    | (go_at_call 21; have h3_ := H3.out.size; (try clear HT); with_reducible refine (laws_toByteS.calls k A c l l _ (by exact Kd.C_below HR.out HX.out) HC.out HTB.out).mono ?_; rintro e WT ⟨vt, rfl, hr, hb⟩; have hr2 := Kd.R_bound hr; have n0 := Aside0.mk (below_step (by repeat (first | (with_reducible first | exact HX.out | apply below_alloc | apply pw_below_drewN | apply below_drew1) | exact HX.out)) hb); clear HX; have HX := n0; clear n0; (try (have n1 := Aside0.mk (below_step (by repeat (first | (with_reducible first | exact H3.out | apply below_alloc | apply pw_below_drewN | apply below_drew1) | exact H3.out)) hb); clear H3; have H3 := n1; clear n1)); (try (have n3 := Aside0.mk (Kd.R_below HX0.out hb); clear HX0; have HX0 := n3; clear n3)); (try (have n2 := Aside0.mk (HG.out.moved (hb.block g HG.out.lt)); clear HG; have HG := n2; clear n2)); obtain ⟨Ax, cx, rfl⟩ := Kd.R_slice hr2; have HX0 := Aside0.mk (Kd.R_mono (ok' := fun k_ => k_ < WT.heap.size) (Kd.R_lower hr2 h3_) (fun _ h_ => h_.2.2.1)); have HXX := Aside0.mk (Nat.le_refl WT.heap.size); clear hr2 hr hb h3_)
    | (go_at_call 21; with_reducible refine (laws_toByteS.calls k A c l l _ (by exact Kd.C_below HR.out HX.out) HC.out HTB.out).mono ?_; rintro e WT ⟨vt, rfl, hr, hb⟩; have n0 := Aside0.mk (below_step (by repeat (first | (with_reducible first | exact HX.out | apply below_alloc | apply pw_below_drewN | apply below_drew1) | exact HX.out)) hb); clear HX; have HX := n0; clear n0; (try (have n1 := Aside0.mk (below_step (by repeat (first | (with_reducible first | exact H3.out | apply below_alloc | apply pw_below_drewN | apply below_drew1) | exact H3.out)) hb); clear H3; have H3 := n1; clear n1)); (try (have n3 := Aside0.mk (Kd.R_below HX0.out hb); clear HX0; have HX0 := n3; clear n3)); (try (have n2 := Aside0.mk (HG.out.moved (hb.block g HG.out.lt)); clear HG; have HG := n2; clear n2)); obtain ⟨At, ct, rfl⟩ := Kd.R_slice hr; have hrr := Kd.R_reads' hr; have HT := Aside0.mk hrr; clear hrr hr hb)
    | (go_at_call 20; refine (spec_FrameBytes.calls k At ct l (bytesOf s) 0 _ (by exact HT.out.2.2) HT.out.2.1 HSP.out).mono ?_; rintro e W3 ⟨vw, rfl, hr, hb⟩; have n0 := Aside0.mk (below_step (by repeat (first | (with_reducible first | exact HX.out | apply below_alloc | apply pw_below_drewN | apply below_drew1) | exact HX.out)) hb); clear HX; have HX := n0; clear n0; (try (have n1 := Aside0.mk (below_step (by repeat (first | (with_reducible first | exact H3.out | apply below_alloc | apply pw_below_drewN | apply below_drew1) | exact H3.out)) hb); clear H3; have H3 := n1; clear n1)); (try (have n3 := Aside0.mk (Kd.R_below HX0.out hb); clear HX0; have HX0 := n3; clear n3)); (try (have n2 := Aside0.mk (HG.out.moved (hb.block g HG.out.lt)); clear HG; have HG := n2; clear n2)); obtain ⟨Aw, cw, rfl⟩ := Kd.R_slice hr; have hrr := Kd.R_reads' hr; have HCW := Aside0.mk hrr; have H3 := Aside0.mk (Below.refl W3.heap.size W3); have HXW := Aside0.mk HX.out; clear hrr hr hb HT)
    | (go_at_call 22; have hg1 := HG.out; refine (fb.good k At ct l s _ (by exact HT.out.2.2) HL1.out HL2.out HF.out HS.out).mono ?_; rintro e W5 ⟨g2, c2, rfl, hat, hge, hb⟩; have n0 := Aside0.mk (below_step (by repeat (first | (with_reducible first | exact HX.out | apply below_alloc | apply pw_below_drewN | apply below_drew1) | exact HX.out)) hb); clear HX; have HX := n0; clear n0; (try (have n1 := Aside0.mk (below_step (by repeat (first | (with_reducible first | exact H3.out | apply below_alloc | apply pw_below_drewN | apply below_drew1) | exact H3.out)) hb); clear H3; have H3 := n1; clear n1)); (try (have n3 := Aside0.mk (Kd.R_below HX0.out hb); clear HX0; have HX0 := n3; clear n3)); (try (have n2 := Aside0.mk (HG.out.moved (hb.block g HG.out.lt)); clear HG; have HG := n2; clear n2)); have HG2 := Aside0.mk hat; clear hat hge hb hg1 HT)
    | (go_at_call 22; refine (fb.good k Ax cx l s _ (by exact (Kd.R_reads' HX0.out).2.2) HL1.out HL2.out HF.out HS.out).mono ?_; rintro e W5 ⟨g, c1, rfl, hat, hge, hb⟩; have h3s := H3.out.size; have hxs := HX.out.size; have n0 := Aside0.mk (below_step (by repeat (first | (with_reducible first | exact HX.out | apply below_alloc | apply pw_below_drewN | apply below_drew1) | exact HX.out)) hb); clear HX; have HX := n0; clear n0; (try (have n1 := Aside0.mk (below_step (by repeat (first | (with_reducible first | exact H3.out | apply below_alloc | apply pw_below_drewN | apply below_drew1) | exact H3.out)) hb); clear H3; have H3 := n1; clear n1)); (try (have n3 := Aside0.mk (Kd.R_below HX0.out hb); clear HX0; have HX0 := n3; clear n3)); (try (have n2 := Aside0.mk (HG.out.moved (hb.block g HG.out.lt)); clear HG; have HG := n2; clear n2)); have HG := Aside0.mk hat; have HGE := Aside0.mk (And.intro (Nat.le_trans h3s hge) (Nat.le_trans hxs hge)); have HGX := Aside0.mk hge; clear hat hge hb h3s hxs)
    | (go_at_call 23; with_reducible refine (mb.same k g2 c2 s.size (bytesOf s) Aw _ cw (bytesOf s) true _ (by exact HG2.out) (bytesOf_length s) rfl HCW.out.2.1 (by exact Kd.C_below HCW.out.2.2 H3.out) HEQ.out).mono ?_; rintro e W6 ⟨rfl, hd⟩; have hb := Drawn0.below hd; clear hd; have n0 := Aside0.mk (below_step (by repeat (first | (with_reducible first | exact HX.out | apply below_alloc | apply pw_below_drewN | apply below_drew1) | exact HX.out)) hb); clear HX; have HX := n0; clear n0; (try (have n1 := Aside0.mk (below_step (by repeat (first | (with_reducible first | exact H3.out | apply below_alloc | apply pw_below_drewN | apply below_drew1) | exact H3.out)) hb); clear H3; have H3 := n1; clear n1)); (try (have n3 := Aside0.mk (Kd.R_below HX0.out hb); clear HX0; have HX0 := n3; clear n3)); (try (have n2 := Aside0.mk (HG.out.moved (hb.block g HG.out.lt)); clear HG; have HG := n2; clear n2)); clear hb HG2)
    | (go_at_call 23; with_reducible refine (mb.same k g c1 s.size (bytesOf s) Aw _ cw (bytesOf s) true _ (by exact HG.out) (bytesOf_length s) rfl HCW.out.2.1 (by exact Kd.C_below HCW.out.2.2 H3.out) HEQ.out).mono ?_; rintro e W6 ⟨rfl, hd⟩; have hb := Drawn0.below hd; clear hd; have n0 := Aside0.mk (below_step (by repeat (first | (with_reducible first | exact HX.out | apply below_alloc | apply pw_below_drewN | apply below_drew1) | exact HX.out)) hb); clear HX; have HX := n0; clear n0; (try (have n1 := Aside0.mk (below_step (by repeat (first | (with_reducible first | exact H3.out | apply below_alloc | apply pw_below_drewN | apply below_drew1) | exact H3.out)) hb); clear H3; have H3 := n1; clear n1)); (try (have n3 := Aside0.mk (Kd.R_below HX0.out hb); clear HX0; have HX0 := n3; clear n3)); (try (have n2 := Aside0.mk (HG.out.moved (hb.block g HG.out.lt)); clear HG; have HG := n2; clear n2)); clear hb)
    | (go_at_call 23; with_reducible refine (laws_eqByteS.calls k Ax cx l At ct l true _ (by exact (Kd.R_reads' HX0.out).2.2) (by exact (Kd.R_reads' HX0.out).2.1) (by exact HT.out.2.2) HT.out.2.1 HEX.out).mono ?_; rintro e W6 ⟨rfl, hd⟩; have hb := Drawn0.below hd; clear hd; have n0 := Aside0.mk (below_step (by repeat (first | (with_reducible first | exact HX.out | apply below_alloc | apply pw_below_drewN | apply below_drew1) | exact HX.out)) hb); clear HX; have HX := n0; clear n0; (try (have n1 := Aside0.mk (below_step (by repeat (first | (with_reducible first | exact H3.out | apply below_alloc | apply pw_below_drewN | apply below_drew1) | exact H3.out)) hb); clear H3; have H3 := n1; clear n1)); (try (have n3 := Aside0.mk (Kd.R_below HX0.out hb); clear HX0; have HX0 := n3; clear n3)); (try (have n2 := Aside0.mk (HG.out.moved (hb.block g HG.out.lt)); clear HG; have HG := n2; clear n2)); clear hb HT)
    | (go_at_call 24; with_reducible refine (mb.mark_n k g c1 s.size (bytesOf s) 1 m l2 _ (by exact HG.out) (bytesOf_length s) HMK.out).mono ?_; rintro e W7 ⟨rfl, hat, hln, hk, hb⟩; have HLN := Aside0.mk hln; have n0 := Aside0.mk (HX.out.trans (hb.mono HGE.out.2)); have n1 := Aside0.mk (H3.out.trans (hb.mono HGE.out.1)); clear HX H3 HG; have HX := n0; have H3 := n1; have HG := Aside0.mk hat; (try clear HX0); clear n0 n1 hat hln hk hb)
    | (go_at_call 24; refine (laws_markByteS.calls k _ _ l 1 mx lx _ _ H3.out HX0.out HMX.out).mono ?_; rintro e W7 ⟨rfl, hat, hb, hk⟩; have n0 := Aside0.mk (HXW.out.trans (hb.mono HXW.out.size)); have n2 := Aside0.mk (HG.out.moved (hk.2 g HG.out.lt (Nat.not_lt.2 HGX.out))); clear HX H3 HG HX0; have HX := n0; have H3 := Aside0.mk hb; have HG := n2; clear n0 n2 hat hk hb)
    | (go_at_call 25; refine (mb.held k g c1 s.size l2 1 m _ (by exact HG.out) HLN.out HHD.out).mono ?_; rintro e W8 ⟨rfl, hd⟩; have hb := Drawn0.below hd; clear hd; have n0 := Aside0.mk (below_step (by repeat (first | (with_reducible first | exact HX.out | apply below_alloc | apply pw_below_drewN | apply below_drew1) | exact HX.out)) hb); clear HX; have HX := n0; clear n0; (try (have n1 := Aside0.mk (below_step (by repeat (first | (with_reducible first | exact H3.out | apply below_alloc | apply pw_below_drewN | apply below_drew1) | exact H3.out)) hb); clear H3; have H3 := n1; clear n1)); (try (have n3 := Aside0.mk (Kd.R_below HX0.out hb); clear HX0; have HX0 := n3; clear n3)); (try (have n2 := Aside0.mk (HG.out.moved (hb.block g HG.out.lt)); clear HG; have HG := n2; clear n2)); clear hb))
  go_ret
  exact ⟨rfl, HX.out⟩
set_option maxHeartbeats 2000000 in
set_option maxRecDepth 100000 in
theorem lw.bad (k : Nat) (A : Option Addr) (c : Nat) (l : List Int) (w : World) (hr : Kd.C (Kd.int .u8) w A l.length l) (hc : l.length ≤ c) (hlen : l.length ≤ 1048576) (htb : laws_toByteS.f k l = some l) (hex : laws_eqByteS.f k l l = some true) (mx : Int) (lx : List Int) (hmx : laws_markByteS.f k l 1 = some (mx, lx)) (hmx0 : 0 ≤ mx) (er : Int) (hbad : ∀ (A : Option Addr) (c : Nat) (w : World), Calls Try.prog 22 #[.slice A l.length c] w fun e w' => e = .returned (.tuple #[.slice none 0 0, .int .i64 er]) ∧ Below w.heap.size w w') (hsp : spec_FrameBytes.f k l = some ([], er)) (heq : laws_eqByteS.f k [] [] = some true) (hmk : laws_markByteS.f k [] 1 = some (1, [])) (hhd : laws_heldByteS.f k [] 1 = some 1) :
    Calls Try.prog 4 #[.slice A l.length c] w fun e w' => e = .returned (.bool true) ∧ Below w.heap.size w w' := by
  have HR := Aside0.mk hr
  have HC := Aside0.mk hc
  have HTB := Aside0.mk htb
  have HEX := Aside0.mk hex
  have HMX := Aside0.mk hmx
  have HX := Aside0.mk (Below.refl w.heap.size w)
  have q0 : decide (mx < 0) = false := decide_eq_false (by omega)
  have q1 : ¬ 1048576 < l.length := by omega
  have HSP := Aside0.mk hsp
  have HBAD := Aside0.mk hbad
  have HEQ := Aside0.mk heq
  have HMK := Aside0.mk hmk
  have HHD := Aside0.mk hhd
  clear hr hc htb hex hmx hmx0 hsp hbad heq hmk hhd hlen
  go_enter Try.func4, Try.ntmps4
  go_wp2_with (first
    | (go_at_call 21; have hx_ := HXX.out; (try clear HT); with_reducible refine (laws_toByteS.calls k A c l l _ (by exact Kd.C_below HR.out HX.out) HC.out HTB.out).mono ?_; rintro e WT ⟨vt, rfl, hr, hb⟩; have n0 := Aside0.mk (below_step (by repeat (first | (with_reducible first | exact HX.out | apply below_alloc | apply pw_below_drewN | apply below_drew1) | exact HX.out)) hb); clear HX; have HX := n0; clear n0; (try (have n1 := Aside0.mk (below_step (by repeat (first | (with_reducible first | exact H3.out | apply below_alloc | apply pw_below_drewN | apply below_drew1) | exact H3.out)) hb); clear H3; have H3 := n1; clear n1)); (try (have n3 := Aside0.mk (Kd.R_below HX0.out hb); clear HX0; have HX0 := n3; clear n3)); (try (have n2 := Aside0.mk (HG.out.moved (hb.block g HG.out.lt)); clear HG; have HG := n2; clear n2)); obtain ⟨At, ct, rfl⟩ := Kd.R_slice hr; have hrr := Kd.R_reads' hr; have HT := Aside0.mk hrr; clear hrr hr hb; clear hx_)
    | (go_at_call 21; have h3_ := H3.out.size; (try clear HT); with_reducible refine (laws_toByteS.calls k A c l l _ (by exact Kd.C_below HR.out HX.out) HC.out HTB.out).mono ?_; rintro e WT ⟨vt, rfl, hr, hb⟩; have hr2 := Kd.R_bound hr; have n0 := Aside0.mk (below_step (by repeat (first | (with_reducible first | exact HX.out | apply below_alloc | apply pw_below_drewN | apply below_drew1) | exact HX.out)) hb); clear HX; have HX := n0; clear n0; (try (have n1 := Aside0.mk (below_step (by repeat (first | (with_reducible first | exact H3.out | apply below_alloc | apply pw_below_drewN | apply below_drew1) | exact H3.out)) hb); clear H3; have H3 := n1; clear n1)); (try (have n3 := Aside0.mk (Kd.R_below HX0.out hb); clear HX0; have HX0 := n3; clear n3)); (try (have n2 := Aside0.mk (HG.out.moved (hb.block g HG.out.lt)); clear HG; have HG := n2; clear n2)); obtain ⟨Ax, cx, rfl⟩ := Kd.R_slice hr2; have HX0 := Aside0.mk (Kd.R_mono (ok' := fun k_ => k_ < WT.heap.size) (Kd.R_lower hr2 h3_) (fun _ h_ => h_.2.2.1)); have HXX := Aside0.mk (Nat.le_refl WT.heap.size); clear hr2 hr hb h3_)
    | (go_at_call 21; with_reducible refine (laws_toByteS.calls k A c l l _ (by exact Kd.C_below HR.out HX.out) HC.out HTB.out).mono ?_; rintro e WT ⟨vt, rfl, hr, hb⟩; have n0 := Aside0.mk (below_step (by repeat (first | (with_reducible first | exact HX.out | apply below_alloc | apply pw_below_drewN | apply below_drew1) | exact HX.out)) hb); clear HX; have HX := n0; clear n0; (try (have n1 := Aside0.mk (below_step (by repeat (first | (with_reducible first | exact H3.out | apply below_alloc | apply pw_below_drewN | apply below_drew1) | exact H3.out)) hb); clear H3; have H3 := n1; clear n1)); (try (have n3 := Aside0.mk (Kd.R_below HX0.out hb); clear HX0; have HX0 := n3; clear n3)); (try (have n2 := Aside0.mk (HG.out.moved (hb.block g HG.out.lt)); clear HG; have HG := n2; clear n2)); obtain ⟨At, ct, rfl⟩ := Kd.R_slice hr; have hrr := Kd.R_reads' hr; have HT := Aside0.mk hrr; clear hrr hr hb)
    | (go_at_call 20; refine (spec_FrameBytes.calls k At ct l [] er _ (by exact HT.out.2.2) HT.out.2.1 HSP.out).mono ?_; rintro e W3 ⟨vw, rfl, hr, hb⟩; have n0 := Aside0.mk (below_step (by repeat (first | (with_reducible first | exact HX.out | apply below_alloc | apply pw_below_drewN | apply below_drew1) | exact HX.out)) hb); clear HX; have HX := n0; clear n0; (try (have n1 := Aside0.mk (below_step (by repeat (first | (with_reducible first | exact H3.out | apply below_alloc | apply pw_below_drewN | apply below_drew1) | exact H3.out)) hb); clear H3; have H3 := n1; clear n1)); (try (have n3 := Aside0.mk (Kd.R_below HX0.out hb); clear HX0; have HX0 := n3; clear n3)); (try (have n2 := Aside0.mk (HG.out.moved (hb.block g HG.out.lt)); clear HG; have HG := n2; clear n2)); obtain ⟨Aw, cw, rfl⟩ := Kd.R_slice hr; have hrr := Kd.R_reads' hr; have HCW := Aside0.mk hrr; have H3 := Aside0.mk (Below.refl W3.heap.size W3); have HXW := Aside0.mk HX.out; clear hrr hr hb HT)
    | (go_at_call 22; refine (HBAD.out _ _ _).mono ?_; rintro e W5 ⟨rfl, hb⟩; have n0 := Aside0.mk (below_step (by repeat (first | (with_reducible first | exact HX.out | apply below_alloc | apply pw_below_drewN | apply below_drew1) | exact HX.out)) hb); clear HX; have HX := n0; clear n0; (try (have n1 := Aside0.mk (below_step (by repeat (first | (with_reducible first | exact H3.out | apply below_alloc | apply pw_below_drewN | apply below_drew1) | exact H3.out)) hb); clear H3; have H3 := n1; clear n1)); (try (have n3 := Aside0.mk (Kd.R_below HX0.out hb); clear HX0; have HX0 := n3; clear n3)); (try (have n2 := Aside0.mk (HG.out.moved (hb.block g HG.out.lt)); clear HG; have HG := n2; clear n2)); (try clear HT); clear hb)
    | (go_at_call 23; with_reducible refine (laws_eqByteS.calls k Ax cx l At ct l true _ (by exact (Kd.R_reads' HX0.out).2.2) (by exact (Kd.R_reads' HX0.out).2.1) (by exact HT.out.2.2) HT.out.2.1 HEX.out).mono ?_; rintro e W6 ⟨rfl, hd⟩; have hb := Drawn0.below hd; clear hd; have n0 := Aside0.mk (below_step (by repeat (first | (with_reducible first | exact HX.out | apply below_alloc | apply pw_below_drewN | apply below_drew1) | exact HX.out)) hb); clear HX; have HX := n0; clear n0; (try (have n1 := Aside0.mk (below_step (by repeat (first | (with_reducible first | exact H3.out | apply below_alloc | apply pw_below_drewN | apply below_drew1) | exact H3.out)) hb); clear H3; have H3 := n1; clear n1)); (try (have n3 := Aside0.mk (Kd.R_below HX0.out hb); clear HX0; have HX0 := n3; clear n3)); (try (have n2 := Aside0.mk (HG.out.moved (hb.block g HG.out.lt)); clear HG; have HG := n2; clear n2)); clear hb HT)
    | (go_at_call 23; refine (laws_eqByteS.calls k none 0 [] Aw cw [] true _ (Kd.C_of_reads (enc := Value.int .u8) (d := (0 : Int)) (h1 := fun _ => rfl) (ReadsOf.nil _ _ _)) (Nat.le_refl _) (by exact Kd.C_below HCW.out.2.2 H3.out) (Nat.zero_le _) HEQ.out).mono ?_; rintro e W6 ⟨rfl, hd⟩; have hb := Drawn0.below hd; clear hd; have n0 := Aside0.mk (below_step (by repeat (first | (with_reducible first | exact HX.out | apply below_alloc | apply pw_below_drewN | apply below_drew1) | exact HX.out)) hb); clear HX; have HX := n0; clear n0; (try (have n1 := Aside0.mk (below_step (by repeat (first | (with_reducible first | exact H3.out | apply below_alloc | apply pw_below_drewN | apply below_drew1) | exact H3.out)) hb); clear H3; have H3 := n1; clear n1)); (try (have n3 := Aside0.mk (Kd.R_below HX0.out hb); clear HX0; have HX0 := n3; clear n3)); (try (have n2 := Aside0.mk (HG.out.moved (hb.block g HG.out.lt)); clear HG; have HG := n2; clear n2)); clear hb)
    | (go_at_call 24; with_reducible refine (laws_markByteS.calls k (fun _ => True) (.slice none 0 0) [] 1 1 [] _ _ (Below.refl _ _) (Kd.R_nil _ _ _ _ _) HMK.out).mono ?_; rintro e W7 ⟨rfl, hat, hb, hk⟩; clear hat hk; have n0 := Aside0.mk (below_step (by repeat (first | (with_reducible first | exact HX.out | apply below_alloc | apply pw_below_drewN | apply below_drew1) | exact HX.out)) hb); clear HX; have HX := n0; clear n0; (try (have n1 := Aside0.mk (below_step (by repeat (first | (with_reducible first | exact H3.out | apply below_alloc | apply pw_below_drewN | apply below_drew1) | exact H3.out)) hb); clear H3; have H3 := n1; clear n1)); (try (have n3 := Aside0.mk (Kd.R_below HX0.out hb); clear HX0; have HX0 := n3; clear n3)); (try (have n2 := Aside0.mk (HG.out.moved (hb.block g HG.out.lt)); clear HG; have HG := n2; clear n2)); clear hb)
    | (go_at_call 24; refine (laws_markByteS.calls k _ _ l 1 mx lx _ _ H3.out HX0.out HMX.out).mono ?_; rintro e W7 ⟨rfl, hat, hb, hk⟩; have n0 := Aside0.mk (HXW.out.trans (hb.mono HXW.out.size)); clear HX H3 HX0; have HX := n0; have H3 := Aside0.mk hb; clear n0 hat hk hb)
    | (go_at_call 25; refine (laws_heldByteS.calls k none 0 [] 1 1 _ (Kd.C_of_reads (enc := Value.int .u8) (d := (0 : Int)) (h1 := fun _ => rfl) (ReadsOf.nil _ _ _)) (Nat.le_refl _) HHD.out).mono ?_; rintro e W8 ⟨rfl, hd⟩; have hb := Drawn0.below hd; clear hd; have n0 := Aside0.mk (below_step (by repeat (first | (with_reducible first | exact HX.out | apply below_alloc | apply pw_below_drewN | apply below_drew1) | exact HX.out)) hb); clear HX; have HX := n0; clear n0; (try (have n1 := Aside0.mk (below_step (by repeat (first | (with_reducible first | exact H3.out | apply below_alloc | apply pw_below_drewN | apply below_drew1) | exact H3.out)) hb); clear H3; have H3 := n1; clear n1)); (try (have n3 := Aside0.mk (Kd.R_below HX0.out hb); clear HX0; have HX0 := n3; clear n3)); (try (have n2 := Aside0.mk (HG.out.moved (hb.block g HG.out.lt)); clear HG; have HG := n2; clear n2)); clear hb))
  go_ret
  exact ⟨rfl, HX.out⟩
/-- What the law's answer hangs on. -/
def laws_FnExactFrameBytes.f (k : Nat) (l : List Int) : Option Bool :=
  if 1048576 < l.length then some true else
  (laws_toByteS.f k l).bind fun tb => (laws_eqByteS.f k l l).bind fun ex => (laws_markByteS.f k l 1).bind fun mx => (spec_FrameBytes.f k l).bind fun r =>
    (laws_eqByteS.f k r.1 r.1).bind fun q => (laws_markByteS.f k r.1 1).bind fun b => (laws_heldByteS.f k b.2 1).bind fun m =>
      if tb = l ∧ ex = true ∧ 0 ≤ mx.1 ∧ q = true ∧ m = b.1 ∧ 0 ≤ m then
        (if 1 ≤ l.length ∧ l.length ≤ 200 then (impl_frame.f k (strOfNums l)).bind fun s => if s.size ≤ 2000000 ∧ r = (bytesOf s, 0) then some true else none
        else if r = ([], if 65536 < l.length then 2 else 4) ∧ b = (1, []) then some true else none)
      else none
theorem laws_FnExactFrameBytes.calls (k : Nat) (A0 : Option Addr) (c0 : Nat) (l0 : List Int) (r : Bool) (w : World) (hr0 : Kd.C (Kd.int .u8) w A0 l0.length l0) (hc0 : l0.length ≤ c0) (h : laws_FnExactFrameBytes.f k l0 = some r) :
    Calls Try.prog 4 #[.slice A0 l0.length c0] w fun e w' => e = .returned (.bool r) ∧ Below w.heap.size w w' := by
  unfold laws_FnExactFrameBytes.f at h
  by_cases h0 : 1048576 < l0.length
  · rw [if_pos h0] at h
    obtain rfl := Option.some.inj h
    exact lw.early A0 _ c0 w h0
  · rw [if_neg h0] at h
    replace h := Option.bind_eq_some_iff.mp h
    obtain ⟨tb, htb, h⟩ := h
    replace h := Option.bind_eq_some_iff.mp h
    obtain ⟨ex, hex, h⟩ := h
    replace h := Option.bind_eq_some_iff.mp h
    obtain ⟨⟨mx, lx⟩, hmx, h⟩ := h
    replace h := Option.bind_eq_some_iff.mp h
    obtain ⟨rr, hsp, h⟩ := h
    replace h := Option.bind_eq_some_iff.mp h
    obtain ⟨q, heq, h⟩ := h
    replace h := Option.bind_eq_some_iff.mp h
    obtain ⟨⟨b1, b2⟩, hmk, h⟩ := h
    replace h := Option.bind_eq_some_iff.mp h
    obtain ⟨m, hhd, h⟩ := h
    by_cases hc : tb = l0 ∧ ex = true ∧ 0 ≤ mx ∧ q = true ∧ m = b1 ∧ 0 ≤ m
    · simp only at h
      rw [if_pos hc] at h
      obtain ⟨rfl, rfl, g3, rfl, rfl, g6⟩ := hc
      by_cases hl : 1 ≤ tb.length ∧ tb.length ≤ 200
      · rw [if_pos hl] at h
        replace h := Option.bind_eq_some_iff.mp h
        obtain ⟨s, hf, h⟩ := h
        by_cases hd : s.size ≤ 2000000 ∧ rr = (bytesOf s, 0)
        · rw [if_pos hd] at h
          obtain rfl := Option.some.inj h
          obtain ⟨hs, rfl⟩ := hd
          exact lw.good k A0 c0 tb w hr0 hc0 (by omega) htb hex mx lx hmx g3 s m b2 hl.1 hl.2 hsp hf hs heq hmk hhd g6
        · rw [if_neg hd] at h
          cases h
      · rw [if_neg hl] at h
        by_cases hd : rr = ([], if 65536 < tb.length then 2 else 4) ∧ (m, b2) = (1, [])
        · rw [if_pos hd] at h
          obtain rfl := Option.some.inj h
          obtain ⟨rfl, e⟩ := hd
          injection e with e1 e2
          subst e1 e2
          refine lw.bad k A0 c0 tb w hr0 hc0 (by omega) htb hex mx lx hmx g3 _ (fun A c w => ?_) hsp heq hmk hhd
          by_cases hg : 65536 < tb.length
          · rw [if_pos hg]
            exact fb.long A _ c w hg
          · rw [if_neg hg]
            exact fb.out A _ c w hg (by omega)
        · rw [if_neg hd] at h
          cases h
    · simp only at h
      rw [if_neg hc] at h
      cases h
-- END law
end Go.Proofs.Ytbkgjjiceldjeaa.PFnExactFrameBytes
